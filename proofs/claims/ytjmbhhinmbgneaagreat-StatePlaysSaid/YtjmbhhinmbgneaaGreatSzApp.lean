/- The evaluator. -/
import Derived.Test.YtjmbhhinmbgneaaGreatSzView
import Derived.ArgAppend
namespace Go.Sy
open Go.RowKit (Below)
def Inj.del (J : Inj) (b : Nat) : Inj := fun c => if c = b then none else J c
theorem scrL_get (b : Nat) : ∀ (ls : List LV) (i : Nat), (LV.scrL b ls)[i]? = (ls[i]?).map (LV.scr b)
 | [], i => by simp [LV.scrL]
 | l :: r, 0 => by simp [LV.scrL]
 | l :: r, i + 1 => by simpa [LV.scrL] using scrL_get b r i
theorem scrL_length (b : Nat) : ∀ (ls : List LV), (LV.scrL b ls).length = ls.length
 | [] => rfl
 | l :: r => by simp [LV.scrL, scrL_length b r]
theorem cond_beq {α : Type} {a b : Nat} {x y : α} (h : a ≠ b) : (bif Nat.beq a b then x else y) = y := by rw [beq_ne h]; rfl
theorem cond_beq_self {α : Type} {b : Nat} {x y : α} : (bif Nat.beq b b then x else y) = x := by simp
theorem Rel.scr {J : Inj} {b : Nat} {l : LV} {v : Value} (h : Rel J l v) : Rel (J.del b) (l.scr b) v := by
 induction h with
 | unk v => exact .unk v
 | i0 k n => exact .i0 k n
 | b0 b => exact .b0 b
 | s0 s => exact .s0 s
 | pn => exact .pn
 | @p blk row off sym bb h hr hs =>
  by_cases e : blk = b
  ·subst e; simp only [LV.scr, cond_beq_self]; exact .unk _
  ·simp only [LV.scr, cond_beq e]; exact .p (by simp [Inj.del, e, h]) hr hs
 | sln => exact .sln
 | slrN blk f =>
  by_cases e : blk = b
  ·subst e; simp only [LV.scr, cond_beq_self]; exact .unk _
  ·simp only [LV.scr, cond_beq e]; exact .slrN _ _
 | slrZ blk f A =>
  by_cases e : blk = b
  ·subst e; simp only [LV.scr, cond_beq_self]; exact .unk _
  ·simp only [LV.scr, cond_beq e]; exact .slrZ _ _ _
 | @slr blk frm len cap bb h hn hc hm =>
  by_cases e : blk = b
  ·subst e; simp only [LV.scr, cond_beq_self]; exact .unk _
  ·simp only [LV.scr, cond_beq e]; exact .slr (by simp [Inj.del, e, h]) hn hc hm
 | slfZ blk o e' c f A =>
  by_cases e : blk = b
  ·subst e; simp only [LV.scr, cond_beq_self]; exact .unk _
  ·simp only [LV.scr, cond_beq e]; exact .slfZ _ _ _ _ _ _
 | @slf blk off esz cnt frm len cap bb h hn h0 hc hm =>
  by_cases e : blk = b
  ·subst e; simp only [LV.scr, cond_beq_self]; exact .unk _
  ·simp only [LV.scr, cond_beq e]; exact .slf (by simp [Inj.del, e, h]) hn h0 hc hm
 | @fn f k cap fst caps hk hl h ih =>
  simp only [LV.scr]
  refine .fn hk (by rw [scrL_length]; exact hl) fun i l v h1 h2 => ?_
  rw [scrL_get] at h1
  obtain ⟨l', h3, h4⟩ := Option.map_eq_some_iff.1 h1
  subst h4
  exact ih i l' v h3 h2
 | fnn => exact .fnn
theorem LV.scr_row (b : Nat) (l : LV) (r : Nat) : (l.scr b).row r = (l.row r).scr b := by
 cases l with
 | p blk _ _ _ =>
  simp only [LV.row, LV.scr]
  cases Nat.beq blk b <;> rfl
 | slr blk _ _ =>
  simp only [LV.row, LV.scr]
  cases Nat.beq blk b <;> rfl
 | slf blk _ _ _ _ _ =>
  simp only [LV.row, LV.scr]
  cases Nat.beq blk b <;> rfl
 | _ => rfl
theorem RelL.scr {J : Inj} {b : Nat} : ∀ {ls : List LV} {vs : List Value}, RelL J ls vs → RelL (J.del b) (LV.scrL b ls) vs
 | [], [], _ => trivial
 | _ :: _, _ :: _, ⟨a, c⟩ => ⟨a.scr, RelL.scr c⟩
theorem Rel1.scr {J : Inj} {b : Nat} {x : V1} {v : Value} (h : Rel1 J x v) : Rel1 (J.del b) (x.scr b) v := by
 cases x with
 | sc l => exact Rel.scr h
 | ag ls => obtain ⟨cs, hv, hr⟩ := h; exact ⟨cs, hv, hr.scr⟩
theorem Rel1s.scr {J : Inj} {b : Nat} : ∀ {ls : List V1} {vs : List Value}, Rel1s J ls vs → Rel1s (J.del b) (V1.scrL b ls) vs
 | [], [], _ => trivial
 | _ :: _, _ :: _, ⟨a, c⟩ => ⟨a.scr, Rel1s.scr c⟩
theorem RelP.scr {J : Inj} {b : Nat} {x : PV} {v : Value} (h : RelP J x v) : RelP (J.del b) (x.scr b) v := by
 cases x with
 | v x => exact Rel1.scr h
 | tup xs => obtain ⟨cs, hv, hr⟩ := h; exact ⟨cs, hv, hr.scr⟩
theorem look_scr (b : Nat) : ∀ (sl : List (Nat × PV)) (t : Nat) (x : PV), lookN t (slScr b sl) = some x → ∃ y, lookN t sl = some y ∧ x = y.scr b
 | [], t, x, h => by simp [slScr, lookN] at h
 | (u, y) :: r, t, x, h => by
  simp only [slScr] at h
  rw [lookN_cons] at h
  rw [lookN_cons]
  split at h
  ·rename_i e; subst e; cases h; exact ⟨y, by simp, rfl⟩
  ·rename_i e
   rw [if_neg e]
   exact look_scr b r t x h
theorem RelF.scr {J : Inj} {b : Nat} {n : Nat} {sl : List (Nat × PV)} {tmps : Array Value} (h : RelF J ⟨n, sl⟩ tmps) : RelF (J.del b) ⟨n, slScr b sl⟩ tmps := by
 refine ⟨h.1, fun t x hx => ?_⟩
 obtain ⟨y, hy, rfl⟩ := look_scr b sl t x hx
 obtain ⟨v, hv, hr⟩ := h.2 t y hy
 exact ⟨v, hv, hr.scr⟩
theorem RelLow.scr {J : Inj} {b : Nat} : ∀ {fs : List Fr} {ts : List (Array Value)}, RelLow J fs ts → RelLow (J.del b) (lowScr b fs) ts
 | [], [], _ => trivial
 | _ :: _, _ :: _, ⟨a, c⟩ => ⟨RelF.scr a, RelLow.scr c⟩
theorem memScr_get (b : Nat) : ∀ (mem : List PBlk) (i : Nat), (memScr b mem)[i]? = (mem[i]?).map fun pb => { pb with cols := LV.scrL b pb.cols }
 | [], i => by simp [memScr]
 | pb :: r, 0 => by simp [memScr]
 | pb :: r, i + 1 => by simpa [memScr] using memScr_get b r i
theorem memScr_length (b : Nat) : ∀ (mem : List PBlk), (memScr b mem).length = mem.length
 | [] => rfl
 | pb :: r => by simp [memScr, memScr_length b r]
theorem RelB.scr {base : Nat} {J : Inj} {w : World} {bb : BB} {pb : PBlk} {b : Nat} (h : RelB base J w bb pb) : RelB base (J.del b) w bb { pb with cols := LV.scrL b pb.cols } where
 esz := by rw [h.esz]; exact (scrL_length _ _).symm
 flat := h.flat
 there := h.there
 cell r hr c hc := by
  obtain ⟨x, hx, hrel⟩ := h.cell r hr c hc
  refine ⟨x, hx, ?_⟩
  have hlt : c < pb.cols.length := by rw [← h.esz]; exact hc
  have e1 : (LV.scrL b pb.cols).getD c .unk = (pb.cols.getD c .unk).scr b := by
   simp only [List.getD, scrL_get]
   simp [hlt]
  simp only
  rw [e1, LV.scr_row]
  exact hrel.scr
 own ho := h.own ho
theorem RelM.scr {base : Nat} {J : Inj} {mem : List PBlk} {w : World} (h : RelM base J mem w) (b : Nat) : RelM base (J.del b) (memScr b mem) w where
 blk c bb hc := by
  unfold Inj.del at hc
  split at hc
  ·cases hc
  ·obtain ⟨pb, hp, hB⟩ := h.blk c bb hc
   exact ⟨_, by rw [memScr_get, hp]; rfl, hB.scr⟩
 apart c c' bb bb' pb hp ho hc hc' hne := by
  unfold Inj.del at hc hc'
  split at hc
  ·cases hc
  ·split at hc'
   ·cases hc'
   ·rw [memScr_get] at hp
    obtain ⟨q, h1, h2⟩ := Option.map_eq_some_iff.1 hp
    subst h2
    exact h.apart c c' bb bb' q h1 ho hc hc' hne
def LV.flat0 : LV → Bool
 | .i0 .. => true
 | .b0 _ => true
 | .s0 _ => true
 | _ => false
theorem Rel.plain {J J' : Inj} {l : LV} {v : Value} (h : Rel J l v) (hp : l.flat0 = true) : Rel J' l v ∧ v.oneCell' = true := by
 cases h <;> first | exact ⟨.i0 _ _, rfl⟩ | exact ⟨.b0 _, rfl⟩ | exact ⟨.s0 _, rfl⟩ | cases hp
theorem shift_plain {l c : LV} {frm r : Nat} (h : shiftLV l frm = some c) : (c.row r).flat0 = true := by
 unfold shiftLV at h
 split at h
 ·injection h with h; subst h; rfl
 ·injection h with h; subst h; rfl
 ·injection h with h; subst h; rfl
 ·cases h
theorem colOf_plain {l : List LV} {c : LV} {frm r : Nat} (h : colOf l frm = some c) : (c.row r).flat0 = true := by
 unfold colOf at h
 split at h
 ·obtain ⟨_, h⟩ := cond_some h
  injection h with h; subst h; rfl
 ·obtain ⟨_, h⟩ := cond_some h
  injection h with h; subst h; rfl
 ·obtain ⟨_, h⟩ := cond_some h
  injection h with h; subst h; rfl
 ·cases h
theorem elems_plain {mem : List PBlk} {l : LV} {cols : List LV} {len : Nat} (h : elemsOf mem l = some (cols, len)) {c r : Nat} (hc : c < cols.length) : ((cols.getD c .unk).row r).flat0 = true := by
 have e1 : cols.getD c .unk = cols[c] := by simp [List.getD, hc]
 rw [e1]
 unfold elemsOf at h
 split at h
 ·obtain ⟨pb, _, h⟩ := bind_some' h
  obtain ⟨_, h⟩ := cond_some h
  obtain ⟨cs, h1, h2⟩ := Option.map_eq_some_iff.1 h
  cases h2
  obtain ⟨g1, g2⟩ := allSome_get h1
  have e := g2 c cols[c] (by simp [hc])
  simp only [List.getElem?_map] at e
  obtain ⟨q, _, e⟩ := Option.map_eq_some_iff.1 e
  exact shift_plain e
 ·obtain ⟨pb, _, h⟩ := bind_some' h
  cases hrw : pb.rowsy with
  | true => rw [hrw] at h; cases h
  | false =>
   rw [hrw] at h
   obtain ⟨cs, h1, h2⟩ := Option.map_eq_some_iff.1 h
   cases h2
   obtain ⟨g1, g2⟩ := allSome_get h1
   have e := g2 c cols[c] (by simp [hc])
   simp only [List.getElem?_map] at e
   obtain ⟨q, _, e⟩ := Option.map_eq_some_iff.1 e
   exact colOf_plain e
 ·cases h
theorem elems_clear (mem : List PBlk) (l : LV) : elemsOf (clearM mem) l = elemsOf mem l := by
 unfold elemsOf
 split
 ·rename_i blk _ _; rw [clearM_get]; generalize mem[blk]? = o; cases o <;> rfl
 ·rename_i blk _ _ _ _ _; rw [clearM_get]; generalize mem[blk]? = o; cases o <;> rfl
 ·rfl
theorem elems_rel {base : Nat} {J : Inj} {mem : List PBlk} {w : World} {l : LV} {v : Value} (hr : Rel J l v) (hm : RelM base J mem w) {cols : List LV} {len : Nat} (he : elemsOf mem l = some (cols, len)) (hlen : 0 < len) :
  ∃ (ad : Addr) (cap : Nat), ad.spot = none ∧ v = .slice (some ad) len cap ∧ len ≤ cap ∧
   ∀ r, r < len → ∀ c, c < cols.length → ∃ x, w.cell? (ad.add (r * cols.length + c)) = some x ∧ x.oneCell' = true ∧ ∀ J', Rel J' ((cols.getD c .unk).row r) x := by
 obtain ⟨J', _, h2, h3, _⟩ := view_ok hr (clearM_ok hm) (clearM_ro mem)
 unfold viewLV at h2 h3
 rw [elems_clear, he] at h2 h3
 simp only at h2 h3
 cases h2 with
 | slrN => omega
 | slrZ => omega
 | @slr _ _ _ cap bb hJ hn hc hmm =>
  obtain ⟨pb, hp, hB⟩ := h3.blk _ bb hJ
  simp at hp
  subst hp
  refine ⟨_, cap, rfl, rfl, hc, fun r hr' c hcc => ?_⟩
  obtain ⟨x, hx, hrel⟩ := hB.cell r (by omega) c (by rw [hB.esz]; exact hcc)
  have hpl := elems_plain he (c := c) (r := r) hcc
  refine ⟨x, ?_, (hrel.plain (J' := J') hpl).2, fun J'' => (hrel.plain hpl).1⟩
  rw [← hx]
  simp only [Addr.add_lit]
  congr 2
  have := hB.esz
  simp only at this
  rw [this]
  simp
  omega
def valsAt (w : World) (ad : Addr) (k : Nat) : List Value := (List.range k).map fun j => (w.cell? (ad.add j)).getD undef
theorem valsAt_get {w : World} {ad : Addr} {k : Nat} (h : ∀ j, j < k → (w.cell? (ad.add j)).isSome = true) {j : Nat} {u : Value} (hj : (valsAt w ad k)[j]? = some u) : w.cell? (ad.add j) = some u := by
 unfold valsAt at hj
 rw [List.getElem?_map] at hj
 obtain ⟨q, h1, h2⟩ := Option.map_eq_some_iff.1 hj
 have hlt : j < k := by
  have := (List.getElem?_eq_some_iff.1 h1).1
  simpa using this
 rw [List.getElem?_range hlt] at h1
 cases h1
 have := h j hlt
 obtain ⟨y, hy⟩ := Option.isSome_iff_exists.1 this
 rw [hy] at h2 ⊢
 simpa using h2
theorem catLV_row {n : Nat} {x y z : LV} (h : catLV n x y = some z) (r : Nat) : z.row r = if r < n then x.row r else y.row (r - n) := by
 have hb : Nat.blt r n = decide (r < n) := by
  rw [Bool.eq_iff_iff]
  simp [Nat.blt_eq]
 unfold catLV at h
 split at h
 ·obtain ⟨h1, h2⟩ := cond_some h
  have h1 := of_decide_eq_true h1
  subst h1
  injection h2 with h2
  subst h2
  simp only [LV.row, hb]
  by_cases hr : r < n <;> simp [hr]
 ·injection h with h
  subst h
  simp only [LV.row, hb]
  by_cases hr : r < n <;> simp [hr]
 ·injection h with h
  subst h
  simp only [LV.row, hb]
  by_cases hr : r < n <;> simp [hr]
 ·cases h
theorem catLVs_get {n : Nat} : ∀ {xs ys zs : List LV}, catLVs n xs ys = some zs → zs.length = xs.length ∧ ys.length = xs.length ∧
  ∀ c, c < zs.length → ∀ r, (zs.getD c .unk).row r = if r < n then (xs.getD c .unk).row r else (ys.getD c .unk).row (r - n)
 | [], [], zs, h => by simp [catLVs] at h; subst h; simp
 | x :: xs, y :: ys, zs, h => by
  simp only [catLVs] at h
  obtain ⟨z, h1, h⟩ := bind_some' h
  obtain ⟨q, h2, h3⟩ := Option.map_eq_some_iff.1 h
  subst h3
  obtain ⟨k1, k2, k3⟩ := catLVs_get h2
  refine ⟨by simp [k1], by simp [k2], fun c hc r => ?_⟩
  cases c with
  | zero => simpa using catLV_row h1 r
  | succ c => simpa using k3 c (by simpa using hc) r
 | [], _ :: _, _, h => by simp [catLVs] at h
 | _ :: _, [], _, h => by simp [catLVs] at h
theorem RelM.to {base : Nat} {J : Inj} {mem : List PBlk} {w w' : World} (h : RelM base J mem w) (hz : w.heap.size ≤ w'.heap.size)
  (hc : ∀ c bb, J c = some bb → ∀ q, w'.cell? ⟨bb.B, q, none⟩ = w.cell? ⟨bb.B, q, none⟩ ∧ w'.frozen? ⟨bb.B, q, none⟩ = w.frozen? ⟨bb.B, q, none⟩) : RelM base J mem w' where
 blk b bb hb := by
  obtain ⟨pb, hp, hB⟩ := h.blk b bb hb
  exact ⟨pb, hp, hB.of_cells (fun _ _ h => h) hz (fun q => (hc b bb hb q).1) (fun q => (hc b bb hb q).2)⟩
 apart := h.apart
theorem RelM.none {base : Nat} {J : Inj} {mem : List PBlk} {w : World} (h : RelM base J mem w) : J mem.length = none := by
 cases hq : J mem.length with
 | none => rfl
 | some bb => exact absurd (h.lt hq) (by omega)
theorem RelM.push {base : Nat} {J : Inj} {mem : List PBlk} {w : World} (h : RelM base J mem w) {bb : BB} {pb : PBlk} (hB : RelB base (J.add mem.length bb) w bb pb) (hap : ∀ c bbc, J c = some bbc → bbc.B ≠ bb.B) :
  RelM base (J.add mem.length bb) (mem ++ [pb]) w where
 blk b bb' hb := by
  unfold Inj.add at hb
  split at hb
  ·rename_i e
   subst e
   cases hb
   exact ⟨pb, by simp, hB⟩
  ·obtain ⟨pb', hp, hB'⟩ := h.blk b bb' hb
   exact ⟨pb', by rw [List.getElem?_append_left (h.lt hb)]; exact hp, hB'.of_cells (Inj.le_add h.none) (Nat.le_refl _) (fun _ => rfl) (fun _ => rfl)⟩
 apart b b' b1 b2 q hp ho hb hb' hne := by
  unfold Inj.add at hb hb'
  split at hb
  ·rename_i e
   cases hb
   split at hb'
   ·omega
   ·exact fun e' => hap b' b2 hb' e'.symm
  ·split at hb'
   ·cases hb'
    exact hap b b1 hb
   ·rw [List.getElem?_append_left (h.lt hb)] at hp
    exact h.apart b b' b1 b2 q hp ho hb hb' hne
theorem cell_row {w : World} {g : Nat} {cur : Array Value} {e : TypeId} (h : w.heap[g]? = some (.cells cur e (0, 0))) (q : Nat) : w.cell? ⟨g, q, none⟩ = cur[q]? := by
 simp [World.cell?, h]
theorem frozen_row {w : World} {g : Nat} {cur : Array Value} {e : TypeId} (h : w.heap[g]? = some (.cells cur e (0, 0))) (q : Nat) : w.frozen? ⟨g, q, none⟩ = false := by
 simp [World.frozen?, h]
theorem run_append_none {P : Program} (w : World) (t ty e : TypeId) (i : TypeInfo) (ht : P.underlying t = some (.slice e)) (hi : P.info? e = some i) (base : Option Addr) (n cap : Nat) (hn : n ≤ cap) (yb : Option Addr) (ycap : Nat) :
  (Builtin.append_ #[t, t] ty #[.slice base n cap, .slice yb 0 ycap]).run P w = .ok (.slice base n cap) w := by
 have hu : (underlying t).run P w = .ok (.slice e) w := run_underlying ht w
 have hs : (sizeOf e).run P w = .ok i.size w := run_sizeOf hi
 have hl : (Builtin.lenOf (.slice yb 0 ycap)).run P w = .ok 0 w := rfl
 have hf : (Builtin.firstCells i.size 0 (.slice yb 0 ycap)).run P w = .ok #[] w := by
  cases yb with
  | none => rfl
  | some a => show (loadCells a (0 * i.size)).run P w = _; rw [Nat.zero_mul]; rfl
 unfold Builtin.append_
 simp only [Sem.run_bind, hu, hs, hl, hf, Result.andThen_ok, Sem.run_pure, Bool.not_false, if_true, Bool.false_eq_true, if_false, Nat.add_zero, hn,
  show (#[t, t] : Array TypeId)[0]? = some t from rfl, show (#[t, t] : Array TypeId)[1]? = some t from rfl, show (#[Value.slice base n cap, Value.slice yb 0 ycap] : Array Value)[0]? = some (.slice base n cap) from rfl, show (#[Value.slice base n cap, Value.slice yb 0 ycap] : Array Value)[1]? = some (.slice yb 0 ycap) from rfl]
 cases base with
 | none => rfl
 | some a => rfl
theorem elems_zero {mem : List PBlk} {J : Inj} {l : LV} {v : Value} {cols : List LV} (hr : Rel J l v) (h : elemsOf mem l = some (cols, 0)) : ∃ yb ycap, v = .slice yb 0 ycap := by
 cases l <;> simp only [elemsOf] at h <;> (try (cases h; done))
 case slr b f n =>
  have hn : n = 0 := by
   obtain ⟨pb, _, h⟩ := bind_some' h
   obtain ⟨_, h⟩ := cond_some h
   rw [Option.map_eq_some_iff] at h
   obtain ⟨_, _, h⟩ := h
   injection h
  subst hn
  cases hr <;> exact ⟨_, _, rfl⟩
 case slf b o e c f n =>
  have hn : n = 0 := by
   obtain ⟨pb, _, h⟩ := bind_some' h
   cases hq : pb.rowsy with
   | true => rw [hq] at h; cases h
   | false =>
    rw [hq] at h
    simp only [cond_false] at h
    rw [Option.map_eq_some_iff] at h
    obtain ⟨_, _, h⟩ := h
    injection h
  subst hn
  cases hr <;> exact ⟨_, _, rfl⟩
section
variable {P : Program} {base : Nat} {w0 : World} {lows : List (Array Value)}
theorem RelS.newRow {J : Inj} {s : St} {tmps : Array Value} {w w' : World} (hS : RelS base w0 J s tmps lows w) {e : TypeId} {size : Nat} (_hsz : 0 < size) {v' : Value} {k : Nat} (hk : 0 < k) {xs : List Value}
  (hown : w'.ownsRow w.heap.size e size v' k xs) (hgr : w.grownBy w' none) {cols : List LV} (hc : cols.length = size)
  (hx : ∀ r, r < k → ∀ c, c < size → ∃ x, xs[r * size + c]? = some x ∧ ∀ J', Rel J' ((cols.getD c .unk).row r) x) :
  ∃ J', RelS base w0 J' { s with mem := s.mem ++ [⟨true, true, cols⟩] } tmps lows w' ∧ Rel J' (.slr s.mem.length 0 k) v' := by
 obtain ⟨hlen, hv | ⟨g, cap, cur, rfl, hg, hh, hn, hcm, hcs, htake⟩⟩ := hown
 ·omega
 have hto : RelM base J s.mem w' := hS.mem.to hgr.size fun c bb hb q => by
  obtain ⟨pb, _, hB⟩ := hS.mem.blk c bb hb
  have := hgr.block bb.B hB.there (by simp)
  exact ⟨World.cell?_of_block (a := ⟨bb.B, q, Option.none⟩) this, World.frozen?_of_block (a := ⟨bb.B, q, Option.none⟩) this⟩
 have hnone := hto.none
 have hgl : g < w'.heap.size := by
  rcases Nat.lt_or_ge g w'.heap.size with h | h
  ·exact h
  ·rw [Array.getElem?_eq_none h] at hh; cases hh
 have hpush : RelM base (J.add s.mem.length ⟨g, 0, size, k, cap⟩) (s.mem ++ [⟨true, true, cols⟩]) w' := by
  refine hto.push ⟨hc.symm, fun h => (by cases h), hgl, fun r hr c hcc => ?_, fun _ => ⟨Nat.le_trans hS.base hg, fun q => frozen_row hh q, hn, fun q hq => ?_⟩⟩ fun c bbc hb => ?_
  ·simp only at hr hcc ⊢
   obtain ⟨x, h1, h2⟩ := hx r hr c hcc
   refine ⟨x, ?_, h2 _⟩
   rw [cell_row hh]
   have hlt : r * size + c < k * size := by
    have : (r + 1) * size ≤ k * size := Nat.mul_le_mul_right _ hr
    rw [Nat.add_mul] at this
    omega
   rw [← htake, List.getElem?_take_of_lt hlt] at h1
   rw [← h1]
   simp
  ·simp only at hq ⊢
   rw [cell_row hh]
   exact ⟨cur[0 + q]'(by omega), by simp [show q < cur.size by omega]⟩
  ·obtain ⟨pb, _, hB⟩ := hS.mem.blk c bbc hb
   have := hB.there
   simp only
   omega
 have hle := Inj.le_add (x := ⟨g, 0, size, k, cap⟩) hnone
 refine ⟨_, ⟨hS.fr.mono hle, hS.low.mono hle, hpush, hS.below.trans ⟨hgr.os, hgr.tape, hgr.output, hgr.size, fun k hk => hgr.block k (Nat.lt_of_lt_of_le hk hS.base) (by simp)⟩, Nat.le_trans hS.base hgr.size⟩, ?_⟩
 have := Rel.slr (J := J.add s.mem.length ⟨g, 0, size, k, cap⟩) (blk := s.mem.length) (frm := 0) (len := k) (cap := cap) (bb := ⟨g, 0, size, k, cap⟩) (by simp [Inj.add]) (by simp) hn (by simp)
 simpa using this
theorem vals_read {w : World} {ad : Addr} {len esz : Nat} (hesz : 0 < esz) {Q : Nat → Nat → Value → Prop} (h : ∀ r, r < len → ∀ c, c < esz → ∃ x, w.cell? (ad.add (r * esz + c)) = some x ∧ x.oneCell' = true ∧ Q r c x) :
  (valsAt w ad (len * esz)).length = len * esz ∧ (∀ j u, (valsAt w ad (len * esz))[j]? = some u → w.cell? (ad.add j) = some u) ∧ (∀ u ∈ valsAt w ad (len * esz), u.oneCell' = true) ∧
  ∀ r, r < len → ∀ c, c < esz → ∃ x, (valsAt w ad (len * esz))[r * esz + c]? = some x ∧ Q r c x := by
 have hsplit : ∀ j, j < len * esz → j / esz < len ∧ j % esz < esz ∧ j / esz * esz + j % esz = j := by
  intro j hj
  refine ⟨Nat.div_lt_of_lt_mul (by rw [Nat.mul_comm]; exact hj), Nat.mod_lt _ hesz, ?_⟩
  rw [Nat.mul_comm]
  exact Nat.div_add_mod j esz
 have hsome : ∀ j, j < len * esz → ∃ x, w.cell? (ad.add j) = some x ∧ x.oneCell' = true := by
  intro j hj
  obtain ⟨h1, h2, h3⟩ := hsplit j hj
  obtain ⟨x, hx, ho, _⟩ := h _ h1 _ h2
  rw [h3] at hx
  exact ⟨x, hx, ho⟩
 have hget : ∀ j u, (valsAt w ad (len * esz))[j]? = some u → w.cell? (ad.add j) = some u := fun j u hj => valsAt_get (fun j hj => by obtain ⟨x, hx, _⟩ := hsome j hj; rw [hx]; rfl) hj
 have hlen : (valsAt w ad (len * esz)).length = len * esz := by simp [valsAt]
 refine ⟨hlen, hget, fun u hu => ?_, fun r hr c hc => ?_⟩
 ·obtain ⟨j, hj⟩ := List.mem_iff_getElem?.1 hu
  have hlt : j < len * esz := by
   have := (List.getElem?_eq_some_iff.1 hj).1
   rwa [hlen] at this
  obtain ⟨x, hx, ho⟩ := hsome j hlt
  rw [hget j u hj] at hx
  cases hx
  exact ho
 ·obtain ⟨x, hx, _, hq⟩ := h r hr c hc
  have hlt : r * esz + c < len * esz := by
   have : (r + 1) * esz ≤ len * esz := Nat.mul_le_mul_right _ hr
   rw [Nat.add_mul] at this
   omega
  refine ⟨x, ?_, hq⟩
  unfold valsAt
  rw [List.getElem?_map, List.getElem?_range hlt]
  simp [hx]
variable {β : Type} {E : Env} {hd : Hd β} {ctx : List Nat} {x : β} {Q : Exit → Act → World → Prop}
theorem append_wp (hT : EnvT P E) {o : Oper} {c : Call} (hc : c.callee = .builtin .append) (ho : o.op = .call c) {s : St} {K : PV → St → Option β} (h : exOp E hd ctx (.call c) s K = some x)
  {J : Inj} {a : Act} {w : World} (hS : RelS base w0 J s a.tmps lows w) {next : Act → World → Prop}
  (hK : ∀ v pv s' J' w', K pv s' = some x → RelS base w0 J' s' a.tmps lows w' → RelP J' pv v → next (a.put o.dst v) w') : o.wp P a w next Q := by
 have hev : ∀ y, RelP J (s.eval y) (a.eval y) := fun y => hS.fr.eval y
 simp only [exOp, hc] at h
 split at h
 ·rename_i y z t t' e1 e2
  obtain ⟨h1, h0⟩ := cond_some h
  clear h
  have h1 := nat_beq h1
  subst h1
  have hop : o.op = Op.call { callee := Callee.builtin Builtin.append, args := #[y, z], argTypes := #[t, t] } := by
   rw [ho]
   congr 1
   cases c with
   | mk callee args argTypes =>
    simp only at hc e1 e2 ⊢
    have e1' : args = #[y, z] := by apply Array.ext'; simpa using e1
    have e2' : argTypes = #[t, t] := by apply Array.ext'; simpa using e2
    rw [hc, e1', e2']
  split at h0
  ·rename_i esz bytes ag zero lx ly hk ey ez
   obtain ⟨nm, he, h⟩ := bind_some' h0
   clear h0
   obtain ⟨news, m⟩ := nm
   obtain ⟨hg, h1⟩ := cond_some h
   clear h
   rename _ => h
   simp only [Bool.and_eq_true, Bool.not_eq_true'] at hg
   obtain ⟨⟨⟨g1, g2⟩, g3⟩, g4⟩ := hg
   have g2 := nat_beq g2
   have g4 := nat_beq g4
   have g3 : 0 < bytes := by simpa [Nat.blt_eq] using g3
   simp only at h g4
   have hK' := (hT.ti t (by rw [hk]; rfl)).2
   rw [hk] at hK'
   obtain ⟨e, ii, zz, hu, ⟨⟨ie, hie, hsz⟩, _⟩, hi, hby, hz1, hz2⟩ := hK'
   rw [hi] at hie
   cases hie
   have hzs : zz.cells.size = esz := by
    have := (hz2 J).length
    simp only [Array.length_toList] at this
    omega
   have hesz : 0 < esz := by
    rw [← g2]
    cases hzr : zero with
    | nil => rw [hzr] at g1; cases g1
    | cons _ _ => simp
   have hy := hev y
   rw [ey] at hy
   have hz := hev z
   rw [ez] at hz
   cases g5 : Nat.blt 0 m with
   | false =>
    rw [g5] at h
    simp only [cond_false] at h
    have hm0 : m = 0 := by
     rcases Nat.eq_zero_or_pos m with h | h
     ·exact h
     ·have : Nat.blt 0 m = true := by simpa [Nat.blt_eq] using h
      rw [this] at g5; cases g5
    subst hm0
    obtain ⟨yb, ycap, hv2⟩ := elems_zero hz he
    have fin : ∀ (base : Option Addr) (n cap : Nat), n ≤ cap → a.eval y = .slice base n cap → K (.s lx) s = some x → o.wp P a w next Q := by
     intro base n cap hn hv1 hk
     have hrun := run_append_none (P := P) w t o.type e ii hu hi base n cap hn yb ycap
     unfold Oper.wp
     simp [execOp, hop, resolve, invoke, builtin, hv1, hv2, hrun, Result.andThen]
     exact hK _ _ _ J w hk hS (by rw [← hv1]; exact hy)
    generalize hvy : a.eval y = v1 at hy fin
    cases lx with
    | sln => cases hy; exact fin _ _ _ (Nat.le_refl _) rfl h
    | slr b f n =>
     cases hy with
     | slrN => exact fin _ _ _ (Nat.le_refl _) rfl h
     | slrZ => exact fin _ _ _ (Nat.le_refl _) rfl h
     | slr _ _ hc _ => exact fin _ _ _ hc rfl h
    | _ => cases h
   | true =>
   rw [g5] at h
   simp only [cond_true] at h
   have g5 : 0 < m := by simpa [Nat.blt_eq] using g5
   obtain ⟨ad, cap2, _, hv2, hcap2, hread⟩ := elems_rel (l := ly) (v := a.eval z) hz hS.mem he g5
   rw [g4] at hread
   obtain ⟨n1, n2, n3, n4⟩ := vals_read hesz hread
   generalize valsAt w ad (m * esz) = nv at n1 n2 n3 n4
   split at h
   ·obtain ⟨h5, h⟩ := cond_some h
    have h5 : m * bytes ≤ 140737488355328 := by simpa using h5
    have hm63 : m ≤ maxLen := by
     have : m ≤ m * bytes := Nat.le_mul_of_pos_right _ g3
     simp only [maxLen]; omega
    have hv1 : a.eval y = .slice none 0 0 := by
     generalize a.eval y = v1 at hy
     cases hy
     rfl
    obtain ⟨v', w', hrun, r1, r2, _⟩ := run_append_own (P := P) w w.heap.size t o.type e ii zz esz bytes hu hi hz1 hsz hby hzs hesz (.slice none 0 0) 0 [] (World.ownsRow_nil w _ e esz) ad m cap2 nv n1 n2 n3 (by simpa using hm63) (by simpa using h5) (Nat.le_refl _)
    simp only [Nat.zero_add, List.nil_append] at r1
    obtain ⟨J', hS', hr'⟩ := hS.newRow hesz g5 r1 r2 g4 (fun r hr c hc => n4 r hr c hc)
    unfold Oper.wp
    simp [execOp, hop, resolve, invoke, builtin, hv1, hv2, hrun, Result.andThen]
    exact hK v' _ _ J' w' h hS' hr'
   ·rename_i b frm n
    obtain ⟨pb, hpb, h⟩ := bind_some' h
    obtain ⟨h5, h⟩ := cond_some h
    simp only [Bool.and_eq_true] at h5
    obtain ⟨⟨⟨hown, hrowsy⟩, hlen⟩, h5⟩ := h5
    have hlen := nat_beq hlen
    have h5 : (n + m) * bytes ≤ 140737488355328 := by simpa using h5
    have hm63 : n + m ≤ maxLen := by
     have : n + m ≤ (n + m) * bytes := Nat.le_mul_of_pos_right _ g3
     simp only [maxLen]; omega
    obtain ⟨olds, h6, h⟩ := bind_some' h
    obtain ⟨cols, h7, h⟩ := bind_some' h
    obtain ⟨k1, k2, k3⟩ := catLVs_get h7
    have holds : elemsOf s.mem (.slr b frm n) = some (olds, n) := by
     simp only [elemsOf, hpb, Option.bind_some, hrowsy, cond_true, h6, Option.map_some]
    have hol : olds.length = esz := by
     rw [(allSome_get h6).1]
     simpa using hlen
    have hcols : cols.length = esz := by rw [k1, hol]
    have hmemlen : (s.scr b).mem.length = s.mem.length := memScr_length b s.mem
    have hS1 : RelS base w0 (J.del b) (s.scr b) a.tmps lows w := ⟨RelF.scr hS.fr, RelLow.scr hS.low, hS.mem.scr b, hS.below, hS.base⟩
    have grown : ∀ (ov : List Value) (v' : Value) (w' : World), ov.length = n * esz → (∀ r, r < n → ∀ c, c < esz → ∃ x, ov[r * esz + c]? = some x ∧ ∀ J', Rel J' ((olds.getD c .unk).row r) x) →
      (Builtin.append_ #[t, t] o.type #[a.eval y, .slice (some ad) m cap2]).run P w = .ok v' w' → w'.ownsRow w.heap.size e esz v' (n + m) (ov ++ nv) → w.grownBy w' none → o.wp P a w next Q := by
     intro ov v' w' hov hread1 hrun r1 r2
     obtain ⟨J', hS', hr'⟩ := hS1.newRow hesz (by omega) r1 r2 hcols (fun r hr c hc => by
      have hrow := k3 c (by omega) r
      by_cases hrn : r < n
      ·rw [if_pos hrn] at hrow
       obtain ⟨x, hx, hrel⟩ := hread1 r hrn c hc
       have hlt : r * esz + c < ov.length := by
        rw [hov]
        have : (r + 1) * esz ≤ n * esz := Nat.mul_le_mul_right _ hrn
        rw [Nat.add_mul] at this
        omega
       exact ⟨x, by rw [List.getElem?_append_left hlt]; exact hx, fun J' => by rw [hrow]; exact hrel J'⟩
      ·rw [if_neg hrn] at hrow
       obtain ⟨x, hx, hrel⟩ := n4 (r - n) (by omega) c hc
       have e3 : r * esz + c - ov.length = (r - n) * esz + c := by
        rw [hov, Nat.sub_mul]
        have : n * esz ≤ r * esz := Nat.mul_le_mul_right _ (by omega)
        omega
       have hge : ov.length ≤ r * esz + c := by
        rw [hov]
        have : n * esz ≤ r * esz := Nat.mul_le_mul_right _ (by omega)
        omega
       exact ⟨x, by rw [List.getElem?_append_right hge, e3]; exact hx, fun J' => by rw [hrow]; exact hrel J'⟩)
     rw [hmemlen] at hr'
     unfold Oper.wp
     simp [execOp, hop, resolve, invoke, builtin, hv2, hrun, Result.andThen]
     exact hK v' _ _ J' w' h hS' hr'
    have hnil : ∀ (v' : Value) (w' : World), n = 0 → (Builtin.append_ #[t, t] o.type #[a.eval y, .slice (some ad) m cap2]).run P w = .ok v' w' → w'.ownsRow w.heap.size e esz v' (n + m) ([] ++ nv) → w.grownBy w' none → o.wp P a w next Q :=
     fun v' w' hn0 => grown [] v' w' (by simp [hn0]) (fun r hr => by omega)
    generalize hvy : a.eval y = v1 at hy grown hnil
    cases hy with
    | slrN =>
     obtain ⟨v', w', hrun, r1, r2, _⟩ := run_append_own (P := P) w w.heap.size t o.type e ii zz esz bytes hu hi hz1 hsz hby hzs hesz (.slice none 0 0) 0 [] (World.ownsRow_nil w _ e esz) ad m cap2 nv n1 n2 n3 hm63 h5 (Nat.le_refl _)
     exact hnil v' w' rfl hrun r1 r2
    | slrZ _ _ A =>
     obtain ⟨v', w', hrun, r1, r2⟩ := run_append_arg_grows (P := P) w t o.type e ii zz esz bytes hu hi hz1 hsz hby hzs hesz A 0 0 [] (by simp) (fun j u hj => by simp at hj) ad m cap2 nv n1 n2 (by omega) hm63 h5
     exact hnil v' w' rfl hrun r1 r2
    | @slr _ _ _ cap bb hJ hn hcc hmm =>
     obtain ⟨pb', hp', hB⟩ := hS.mem.blk b bb hJ
     rw [hpb] at hp'
     cases hp'
     obtain ⟨hbase, hfz, hnm, hcells⟩ := hB.own hown
     have hbesz : bb.esz = esz := by rw [hB.esz, hlen]
     have hread1 : ∀ r, r < n → ∀ c, c < esz → ∃ x, w.cell? ((⟨bb.B, bb.o + frm * bb.esz, none⟩ : Addr).add (r * esz + c)) = some x ∧ x.oneCell' = true ∧ ∀ J', Rel J' ((olds.getD c .unk).row r) x := by
      intro r hr c hc'
      obtain ⟨x, hx, hrel⟩ := hB.cell (r + frm) (by omega) c (by omega)
      obtain ⟨q1, q2⟩ := allSome_get h6
      have hlt : c < pb.cols.length := by omega
      have hlt' : c < olds.length := by omega
      have e := q2 c olds[c] (by simp [hlt'])
      simp only [List.getElem?_map, List.getElem?_eq_getElem hlt, Option.map_some, Option.some.injEq] at e
      have e3 : olds.getD c .unk = olds[c] := by simp [List.getD, hlt']
      have e4 : pb.cols.getD c .unk = pb.cols[c] := by simp [List.getD, hlt]
      have hpl := shift_plain (r := r) e
      rw [e4, ← shift_row e] at hrel
      refine ⟨x, ?_, (hrel.plain (J' := J) hpl).2, fun J' => by rw [e3]; exact (hrel.plain hpl).1⟩
      rw [← hx]
      simp only [Addr.add_lit]
      congr 2
      rw [Nat.add_mul, hbesz]
      omega
     obtain ⟨o1, o2, o3, o4⟩ := vals_read hesz hread1
     generalize valsAt w ⟨bb.B, bb.o + frm * bb.esz, none⟩ (n * esz) = ov at o1 o2 o3 o4
     by_cases hroom : n + m ≤ cap
     ·
      have hspare : ∀ j, j < nv.length → ∃ x, w.cell? ⟨bb.B, bb.o + frm * bb.esz + n * esz + j, none⟩ = some x := by
       intro j hj
       rw [n1] at hj
       have h8 : (frm + (n + m)) * esz ≤ bb.m * esz := Nat.mul_le_mul_right _ (by omega)
       rw [Nat.add_mul, Nat.add_mul] at h8
       obtain ⟨x, hx⟩ := hcells (frm * esz + n * esz + j) (by rw [hbesz]; omega)
       refine ⟨x, ?_⟩
       rw [← hx, hbesz]
       congr 2
       omega
      have hrun := run_append_room_cells (P := P) w t o.type e ii hu hi bb.B (bb.o + frm * bb.esz) n cap ad m cap2 nv (by rw [hsz]; exact n1) n2 n3 hroom
       (fun j hj => by obtain ⟨x, hx⟩ := hspare j hj; rw [hsz, hx]; rfl) (fun j _ => hfz _)
      rw [hsz] at hrun
      have hto : RelM base (J.del b) (s.scr b).mem (w.setCells bb.B (bb.o + frm * bb.esz + n * esz) nv) := hS1.mem.to (by rw [size_setCells]; exact Nat.le_refl _) fun c' bb' hb' q => by
       have hb'' : J c' = some bb' ∧ c' ≠ b := by
        unfold Inj.del at hb'
        split at hb'
        ·cases hb'
        ·rename_i e; exact ⟨hb', e⟩
       have hne := hS.mem.apart b c' bb bb' pb hpb hown hJ hb''.1 (Ne.symm hb''.2)
       exact ⟨World.cell?_setCells_out bb.B nv _ w ⟨bb'.B, q, none⟩ (fun e => absurd e.symm hne), World.frozen?_setCells bb.B nv _ w _⟩
      have hin := fun j (hj : j < nv.length) => World.cell?_setCells_in bb.B nv (bb.o + frm * bb.esz + n * esz) w (fun j hj => by obtain ⟨x, hx⟩ := hspare j hj; rw [hx]; rfl) j hj
      have hout : ∀ q, q < n * esz → (w.setCells bb.B (bb.o + frm * bb.esz + n * esz) nv).cell? ⟨bb.B, bb.o + frm * bb.esz + q, none⟩ = w.cell? ⟨bb.B, bb.o + frm * bb.esz + q, none⟩ := fun q hq =>
       World.cell?_setCells_out bb.B nv _ w _ (fun _ _ => .inl (by simp only; omega))
      have hpush : RelM base ((J.del b).add (s.scr b).mem.length ⟨bb.B, bb.o + frm * bb.esz, esz, n + m, cap⟩) ((s.scr b).mem ++ [⟨true, true, cols⟩]) (w.setCells bb.B (bb.o + frm * bb.esz + n * esz) nv) := by
       refine hto.push ⟨hcols.symm, fun h => (by cases h), by rw [size_setCells]; exact hB.there, fun r hr c' hc' => ?_, fun _ => ⟨hbase, fun q => by rw [World.frozen?_setCells]; exact hfz _, hroom, fun q hq => ?_⟩⟩ fun c' bbc hb' => ?_
       ·simp only at hr hc' ⊢
        have hrow := k3 c' (by omega) r
        by_cases hrn : r < n
        ·rw [if_pos hrn] at hrow
         obtain ⟨x, hx, hrel⟩ := o4 r hrn c' hc'
         have h9 := o2 _ x hx
         simp only [Addr.add_lit] at h9
         refine ⟨x, ?_, by rw [hrow]; exact hrel _⟩
         rw [Nat.add_assoc (bb.o + frm * bb.esz), hout _ (by
          have : (r + 1) * esz ≤ n * esz := Nat.mul_le_mul_right _ hrn
          rw [Nat.add_mul] at this
          omega)]
         exact h9
        ·rw [if_neg hrn] at hrow
         obtain ⟨x, hx, hrel⟩ := n4 (r - n) (by omega) c' hc'
         refine ⟨x, ?_, by rw [hrow]; exact hrel _⟩
         have hlt := (List.getElem?_eq_some_iff.1 hx).1
         have := hin _ hlt
         rw [(List.getElem?_eq_some_iff.1 hx).2] at this
         rw [← this]
         congr 2
         rw [Nat.sub_mul]
         have : n * esz ≤ r * esz := Nat.mul_le_mul_right _ (by omega)
         omega
       ·simp only at hq ⊢
        by_cases hq1 : q < n * esz
        ·rw [hout q hq1]
         obtain ⟨x, hx⟩ := hcells (frm * esz + q) (by
          rw [hbesz]
          have h8 : (frm + cap) * esz ≤ bb.m * esz := Nat.mul_le_mul_right _ (by omega)
          rw [Nat.add_mul] at h8
          omega)
         refine ⟨x, ?_⟩
         rw [← hx, hbesz]
         congr 2
         omega
        ·by_cases hq2 : q < n * esz + nv.length
         ·have := hin (q - n * esz) (by omega)
          refine ⟨nv[q - n * esz]'(by omega), ?_⟩
          rw [← this]
          congr 2
          omega
         ·obtain ⟨x, hx⟩ := hcells (frm * esz + q) (by
           rw [hbesz]
           have h8 : (frm + cap) * esz ≤ bb.m * esz := Nat.mul_le_mul_right _ (by omega)
           rw [Nat.add_mul] at h8
           omega)
          refine ⟨x, ?_⟩
          rw [World.cell?_setCells_out bb.B nv _ w _ (fun _ _ => .inr (by simp only; omega)), ← hx, hbesz]
          congr 2
          omega
       ·have hb'' : J c' = some bbc ∧ c' ≠ b := by
         unfold Inj.del at hb'
         split at hb'
         ·cases hb'
         ·rename_i e; exact ⟨hb', e⟩
        exact Ne.symm (hS.mem.apart b c' bb bbc pb hpb hown hJ hb''.1 (Ne.symm hb''.2))
      have hle := Inj.le_add (x := ⟨bb.B, bb.o + frm * bb.esz, esz, n + m, cap⟩) hto.none
      unfold Oper.wp
      simp [execOp, hop, resolve, invoke, builtin, hvy, hv2, hrun, Result.andThen]
      refine hK _ _ _ _ _ h ⟨hS1.fr.mono hle, hS1.low.mono hle, hpush, below_setCells _ hbase _ _ _ hS.below, by rw [size_setCells]; exact hS.base⟩ ?_
      have := Rel.slr (J := (J.del b).add (s.scr b).mem.length ⟨bb.B, bb.o + frm * bb.esz, esz, n + m, cap⟩) (blk := s.mem.length) (frm := 0) (len := n + m) (cap := cap) (bb := ⟨bb.B, bb.o + frm * bb.esz, esz, n + m, cap⟩)
       (by rw [hmemlen]; simp [Inj.add]) (by simp) hroom (by simp)
      simp only [Nat.zero_mul, Nat.add_zero] at this
      exact this
     ·obtain ⟨v', w', hrun, r1, r2⟩ := run_append_arg_grows (P := P) w t o.type e ii zz esz bytes hu hi hz1 hsz hby hzs hesz ⟨bb.B, bb.o + frm * bb.esz, none⟩ n cap ov o1 o2 ad m cap2 nv n1 n2 (by omega) hm63 h5
      exact grown ov v' w' o1 (fun r hr c hc => o4 r hr c hc) hrun r1 r2
   ·cases h
  ·cases h0
 ·cases h
end
end Go.Sy
