/- The evaluator. -/
import Derived.Test.YtjmbhhinmbgneaaGreatSzStep3
namespace Go.Sy
open Go.RowKit (Below)
theorem allSome_get {α : Type} : ∀ {l : List (Option α)} {r : List α}, allSome l = some r → r.length = l.length ∧ ∀ (i : Nat) (a : α), r[i]? = some a → l[i]? = some (some a)
 | [], r, h => by simp [allSome] at h; subst h; simp
 | x :: l, r, h => by
  simp only [allSome] at h
  obtain ⟨a, h1, h2⟩ := bind_some' h
  obtain ⟨q, h3, h4⟩ := Option.map_eq_some_iff.1 h2
  subst h4
  obtain ⟨k1, k2⟩ := allSome_get h3
  refine ⟨by simp [k1], fun i b hb => ?_⟩
  cases i with
  | zero => simp at hb; subst hb; simp [h1]
  | succ i => simpa using k2 i b (by simpa using hb)
theorem RelM.dead {base : Nat} {J : Inj} {mem : List PBlk} {w : World} (h : RelM base J mem w) (pb : PBlk) : RelM base J (mem ++ [pb]) w where
 blk b bb hb := by
  obtain ⟨pb', hp, hB⟩ := h.blk b bb hb
  exact ⟨pb', by rw [List.getElem?_append_left (h.lt hb)]; exact hp, hB⟩
 apart b b' bb bb' q hp ho hb hb' hne := by
  rw [List.getElem?_append_left (h.lt hb)] at hp
  exact h.apart b b' bb bb' q hp ho hb hb' hne
def clearM : List PBlk → List PBlk
 | [] => []
 | pb :: r => { pb with own := false } :: clearM r
def viewLV (l : LV) (mem : List PBlk) : LV × List PBlk :=
 match elemsOf mem l with
 | some (cols, len) => (.slr mem.length 0 len, mem ++ [⟨false, true, cols⟩])
 | none => (l, mem)
def viewLs : List LV → List PBlk → List LV × List PBlk
 | [], mem => ([], mem)
 | l :: ls, mem =>
  let a := viewLV l mem
  let b := viewLs ls a.2
  (a.1 :: b.1, b.2)
def viewP (x : PV) (mem : List PBlk) : PV × List PBlk :=
 match x with
 | .v (.sc l) => let a := viewLV l mem; (.v (.sc a.1), a.2)
 | .v (.ag ls) => let a := viewLs ls mem; (.v (.ag a.1), a.2)
 | .tup xs => (.tup xs, mem)
def viewPs : List PV → List PBlk → List PV × List PBlk
 | [], mem => ([], mem)
 | x :: xs, mem =>
  let a := viewP x mem
  let b := viewPs xs a.2
  (a.1 :: b.1, b.2)
theorem clearM_get : ∀ (mem : List PBlk) (i : Nat), (clearM mem)[i]? = (mem[i]?).map fun pb => { pb with own := false }
 | [], i => by simp [clearM]
 | pb :: r, 0 => by simp [clearM]
 | pb :: r, i + 1 => by simpa [clearM] using clearM_get r i
theorem clearM_length : ∀ (mem : List PBlk), (clearM mem).length = mem.length
 | [] => rfl
 | pb :: r => by simp [clearM, clearM_length r]
def AllRo (mem : List PBlk) : Prop := ∀ (i : Nat) (pb : PBlk), mem[i]? = some pb → pb.own = false
theorem clearM_ro (mem : List PBlk) : AllRo (clearM mem) := by
 intro i pb h
 rw [clearM_get] at h
 obtain ⟨q, _, e⟩ := Option.map_eq_some_iff.1 h
 subst e
 rfl
theorem clearM_ok {base : Nat} {J : Inj} {mem : List PBlk} {w : World} (h : RelM base J mem w) : RelM base J (clearM mem) w where
 blk b bb hb := by
  obtain ⟨pb, hp, hB⟩ := h.blk b bb hb
  exact ⟨{ pb with own := false }, by rw [clearM_get, hp]; rfl, ⟨hB.esz, hB.flat, hB.there, hB.cell, fun ho => by simp at ho⟩⟩
 apart b b' bb bb' pb hp ho hb hb' hne := by
  rw [clearM_ro mem b pb hp] at ho
  cases ho
theorem allI_get {l : List LV} {k : IntKind} (h : l.all (LV.isI k) = true) {i : Nat} {x : LV} (hx : l[i]? = some x) : x = .i0 k x.int := by
 have := List.all_eq_true.1 h x (List.mem_of_getElem? hx)
 cases x <;> simp [LV.isI] at this
 subst this
 rfl
theorem allB_get {l : List LV} (h : l.all LV.isB = true) {i : Nat} {x : LV} (hx : l[i]? = some x) : x = .b0 x.bool := by
 have := List.all_eq_true.1 h x (List.mem_of_getElem? hx)
 cases x <;> simp [LV.isB] at this
 rfl
theorem allS_get {l : List LV} (h : l.all LV.isS = true) {i : Nat} {x : LV} (hx : l[i]? = some x) : x = .s0 x.str := by
 have := List.all_eq_true.1 h x (List.mem_of_getElem? hx)
 cases x <;> simp [LV.isS] at this
 rfl
theorem colOf_get {l : List LV} {frm : Nat} {c : LV} (h : colOf l frm = some c) {j : Nat} {x : LV} (hx : l[j + frm]? = some x) : c.row j = x ∧ x ≠ .unk ∧ ∀ r, x.row r = x := by
 unfold colOf at h
 split at h
 ·obtain ⟨h1, h2⟩ := cond_some h
  injection h2 with h2
  have e := allI_get h1 hx
  subst h2
  refine ⟨?_, by rw [e]; simp, fun r => by rw [e]; rfl⟩
  rw [e]
  simp only [LV.row, selI, List.getD, List.getElem?_map, hx, Option.map_some, Option.getD_some]
 ·obtain ⟨h1, h2⟩ := cond_some h
  injection h2 with h2
  have e := allB_get h1 hx
  subst h2
  refine ⟨?_, by rw [e]; simp, fun r => by rw [e]; rfl⟩
  rw [e]
  simp only [LV.row, selB, List.getD, List.getElem?_map, hx, Option.map_some, Option.getD_some]
 ·obtain ⟨h1, h2⟩ := cond_some h
  injection h2 with h2
  have e := allS_get h1 hx
  subst h2
  refine ⟨?_, by rw [e]; simp, fun r => by rw [e]; rfl⟩
  rw [e]
  simp only [LV.row, selS, List.getD, List.getElem?_map, hx, Option.map_some, Option.getD_some]
 ·cases h
theorem shift_row {l c : LV} {frm : Nat} (h : shiftLV l frm = some c) (r : Nat) : c.row r = l.row (r + frm) := by
 unfold shiftLV at h
 split at h
 ·injection h with h; subst h; rfl
 ·injection h with h; subst h; rfl
 ·injection h with h; subst h; rfl
 ·cases h
theorem view_ok {base : Nat} {J : Inj} {w : World} {l : LV} {mem : List PBlk} {v : Value} (hr : Rel J l v) (hm : RelM base J mem w) (hro : AllRo mem) :
  ∃ J', Inj.le J J' ∧ Rel J' (viewLV l mem).1 v ∧ RelM base J' (viewLV l mem).2 w ∧ AllRo (viewLV l mem).2 := by
 unfold viewLV
 split
 ·rename_i cols len he
  have hro' : AllRo (mem ++ [⟨false, true, cols⟩]) := by
   intro i pb hp
   rcases Nat.lt_or_ge i mem.length with hlt | hge
   ·rw [List.getElem?_append_left hlt] at hp
    exact hro i pb hp
   ·rw [List.getElem?_append_right hge] at hp
    generalize i - mem.length = q at hp
    cases q with
    | zero => simp at hp; subst hp; rfl
    | succ q => simp at hp
  have hnone : J mem.length = none := by
   cases hq : J mem.length with
   | none => rfl
   | some bb => exact absurd (hm.lt hq) (by omega)
  have hgrow : ∀ bb : BB, (RelB base (J.add mem.length bb) w bb ⟨false, true, cols⟩) → RelM base (J.add mem.length bb) (mem ++ [⟨false, true, cols⟩]) w := by
   intro bb hB
   refine ⟨fun b bb' hb => ?_, fun b b' bb1 bb2 pb hp ho _ _ _ => by rw [hro' b pb hp] at ho; cases ho⟩
   unfold Inj.add at hb
   split at hb
   ·rename_i e
    subst e
    cases hb
    exact ⟨_, by simp, hB⟩
   ·obtain ⟨pb, hp, hB'⟩ := hm.blk b bb' hb
    exact ⟨pb, by rw [List.getElem?_append_left (hm.lt hb)]; exact hp, hB'.of_cells (Inj.le_add hnone) (Nat.le_refl _) (fun _ => rfl) (fun _ => rfl)⟩
  cases hr with
  | slrN b frm =>
   simp only [elemsOf] at he
   obtain ⟨pb, h1, h2⟩ := bind_some' he
   obtain ⟨h3, h4⟩ := cond_some h2
   obtain ⟨cs, h5, h6⟩ := Option.map_eq_some_iff.1 h4
   cases h6
   exact ⟨J, fun _ _ h => h, .slrN _ _, hm.dead _, hro'⟩
  | slrZ b frm A =>
   simp only [elemsOf] at he
   obtain ⟨pb, h1, h2⟩ := bind_some' he
   obtain ⟨h3, h4⟩ := cond_some h2
   obtain ⟨cs, h5, h6⟩ := Option.map_eq_some_iff.1 h4
   cases h6
   exact ⟨J, fun _ _ h => h, .slrZ _ _ _, hm.dead _, hro'⟩
  | slfZ b off esz cnt frm A =>
   simp only [elemsOf] at he
   obtain ⟨pb, h1, h2⟩ := bind_some' he
   have h2 : (bif pb.rowsy then none else (allSome ((List.range esz).map fun q => colOf ((List.range cnt).map fun j => pb.cols.getD (off + j * esz + q) .unk) frm)).map (·, 0)) = some (cols, len) := h2
   cases hrw : pb.rowsy with
   | true => rw [hrw] at h2; cases h2
   | false =>
    rw [hrw] at h2
    obtain ⟨cs, h5, h6⟩ := Option.map_eq_some_iff.1 h2
    cases h6
    exact ⟨J, fun _ _ h => h, .slrZ _ _ _, hm.dead _, hro'⟩
  | @slr b frm len0 cap bb hJ hn hc hmm =>
   simp only [elemsOf] at he
   obtain ⟨pb, h1, h2⟩ := bind_some' he
   obtain ⟨h3, h4⟩ := cond_some h2
   obtain ⟨cs, h5, h6⟩ := Option.map_eq_some_iff.1 h4
   cases h6
   obtain ⟨pb', hp', hB⟩ := hm.blk b bb hJ
   rw [h1] at hp'
   cases hp'
   obtain ⟨g1, g2⟩ := allSome_get h5
   refine ⟨J.add mem.length ⟨bb.B, bb.o + frm * bb.esz, bb.esz, len, cap⟩, Inj.le_add hnone, ?_, hgrow _ ?_, hro'⟩
   ·have := Rel.slr (J := J.add mem.length ⟨bb.B, bb.o + frm * bb.esz, bb.esz, len, cap⟩) (blk := mem.length) (frm := 0) (len := len) (cap := cap) (bb := ⟨bb.B, bb.o + frm * bb.esz, bb.esz, len, cap⟩)
     (by simp [Inj.add]) (by simp) hc (by simp)
    simpa using this
   ·refine ⟨?_, fun h => (by cases h), hB.there, fun r hr c hcc => ?_, fun ho => (by cases ho)⟩
    ·simp only
     rw [g1, hB.esz]
     simp
    ·simp only at hr hcc ⊢
     obtain ⟨x, hx, hrel⟩ := hB.cell (r + frm) (by omega) c hcc
     refine ⟨x, ?_, ?_⟩
     ·rw [← hx]
      congr 2
      rw [Nat.add_mul]
      omega
     ·have hlt : c < pb.cols.length := by rw [← hB.esz]; exact hcc
      have hlt' : c < cols.length := by rw [g1]; simpa using hlt
      have e := g2 c cols[c] (by simp [hlt'])
      simp only [List.getElem?_map, List.getElem?_eq_getElem hlt, Option.map_some, Option.some.injEq] at e
      have e1 : cols.getD c .unk = cols[c] := by simp [List.getD, hlt']
      have e2 : pb.cols.getD c .unk = pb.cols[c] := by simp [List.getD, hlt]
      rw [e1, shift_row e]
      rw [e2] at hrel
      exact hrel.mono (Inj.le_add hnone)
  | @slf b off esz cnt frm len0 cap bb hJ hn h0 hc hmm =>
   simp only [elemsOf] at he
   obtain ⟨pb, h1, h2⟩ := bind_some' he
   cases hrw : pb.rowsy with
   | true => rw [hrw] at h2; cases h2
   | false =>
    rw [hrw] at h2
    obtain ⟨cs, h5, h6⟩ := Option.map_eq_some_iff.1 h2
    cases h6
    obtain ⟨pb', hp', hB⟩ := hm.blk b bb hJ
    rw [h1] at hp'
    cases hp'
    obtain ⟨g1, g2⟩ := allSome_get h5
    simp at g1
    refine ⟨J.add mem.length ⟨bb.B, bb.o + off + frm * esz, esz, len, cap⟩, Inj.le_add hnone, ?_, hgrow _ ?_, hro'⟩
    ·have := Rel.slr (J := J.add mem.length ⟨bb.B, bb.o + off + frm * esz, esz, len, cap⟩) (blk := mem.length) (frm := 0) (len := len) (cap := cap) (bb := ⟨bb.B, bb.o + off + frm * esz, esz, len, cap⟩)
      (by simp [Inj.add]) (by simp) hc (by simp)
     simpa using this
    ·refine ⟨g1.symm, fun h => (by cases h), hB.there, fun r hr c hcc => ?_, fun ho => (by cases ho)⟩
     simp only at hr hcc ⊢
     have hlt' : c < cols.length := by rw [g1]; exact hcc
     have e := g2 c cols[c] (by simp [hlt'])
     simp only [List.getElem?_map, List.getElem?_range hcc, Option.map_some, Option.some.injEq] at e
     have e1 : cols.getD c .unk = cols[c] := by simp [List.getD, hlt']
     have hlj : r + frm < cnt := by omega
     obtain ⟨m1, m2, m3⟩ := colOf_get (j := r) (x := pb.cols.getD (off + (r + frm) * esz + c) .unk) e (by simp only [List.getElem?_map, List.getElem?_range hlj, Option.map_some])
     have hcol : off + (r + frm) * esz + c < pb.cols.length := by
      rcases Nat.lt_or_ge (off + (r + frm) * esz + c) pb.cols.length with h | h
      ·exact h
      ·exact absurd (by simp [List.getD, h]) m2
     obtain ⟨x, hx, hrel⟩ := hB.cell 0 h0 (off + (r + frm) * esz + c) (by rw [hB.esz]; exact hcol)
     refine ⟨x, ?_, ?_⟩
     ·rw [← hx]
      congr 2
      rw [Nat.add_mul]
      omega
     ·rw [e1, m1]
      rw [m3] at hrel
      exact hrel.mono (Inj.le_add hnone)
  | _ => simp only [elemsOf, reduceCtorEq] at he
 ·exact ⟨J, fun _ _ h => h, hr, hm, hro⟩
theorem viewLs_ok {base : Nat} {w : World} : ∀ {ls : List LV} {J : Inj} {mem : List PBlk} {vs : List Value}, RelL J ls vs → RelM base J mem w → AllRo mem →
  ∃ J', Inj.le J J' ∧ RelL J' (viewLs ls mem).1 vs ∧ RelM base J' (viewLs ls mem).2 w ∧ AllRo (viewLs ls mem).2
 | [], J, mem, vs, hr, hm, hro => ⟨J, fun _ _ h => h, hr, hm, hro⟩
 | l :: ls, J, mem, v :: vs, hr, hm, hro => by
  obtain ⟨h1, h2⟩ := hr
  obtain ⟨J1, a1, a2, a3, a4⟩ := view_ok h1 hm hro
  obtain ⟨J2, b1, b2, b3, b4⟩ := viewLs_ok (RelL.mono a1 h2) a3 a4
  simp only [viewLs]
  exact ⟨J2, fun _ _ h => b1 _ _ (a1 _ _ h), ⟨a2.mono b1, b2⟩, b3, b4⟩
 | _ :: _, _, _, [], hr, _, _ => by cases hr
theorem viewP_ok {base : Nat} {w : World} {x : PV} {J : Inj} {mem : List PBlk} {v : Value} (hr : RelP J x v) (hm : RelM base J mem w) (hro : AllRo mem) :
  ∃ J', Inj.le J J' ∧ RelP J' (viewP x mem).1 v ∧ RelM base J' (viewP x mem).2 w ∧ AllRo (viewP x mem).2 := by
 unfold viewP
 split
 ·exact view_ok (J := J) hr hm hro
 ·obtain ⟨us, hv, hr⟩ := hr
  obtain ⟨J1, a1, a2, a3, a4⟩ := viewLs_ok hr hm hro
  exact ⟨J1, a1, ⟨us, hv, a2⟩, a3, a4⟩
 ·exact ⟨J, fun _ _ h => h, hr, hm, hro⟩
theorem viewPs_ok {base : Nat} {w : World} : ∀ {ls : List PV} {J : Inj} {mem : List PBlk} {vs : List Value}, RelPs J ls vs → RelM base J mem w → AllRo mem →
  ∃ J', Inj.le J J' ∧ RelPs J' (viewPs ls mem).1 vs ∧ RelM base J' (viewPs ls mem).2 w ∧ AllRo (viewPs ls mem).2
 | [], J, mem, [], hr, hm, hro => ⟨J, fun _ _ h => h, hr, hm, hro⟩
 | [], _, _, _ :: _, hr, _, _ => by cases hr
 | x :: xs, J, mem, v :: vs, hr, hm, hro => by
  obtain ⟨h1, h2⟩ := hr
  obtain ⟨J1, a1, a2, a3, a4⟩ := viewP_ok h1 hm hro
  obtain ⟨J2, b1, b2, b3, b4⟩ := viewPs_ok (RelPs.mono a1 h2) a3 a4
  simp only [viewPs]
  exact ⟨J2, fun _ _ h => b1 _ _ (a1 _ _ h), ⟨a2.mono b1, b2⟩, b3, b4⟩
 | _ :: _, _, _, [], hr, _, _ => by cases hr
end Go.Sy
