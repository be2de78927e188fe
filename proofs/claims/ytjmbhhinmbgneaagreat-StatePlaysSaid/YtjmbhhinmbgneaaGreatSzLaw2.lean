/- The evaluator. -/
import Derived.Test.YtjmbhhinmbgneaaGreatSzLaw
namespace Go.Sy
open Go.RowKit (Below)
def colCd : Cd → Cd
 | .i k => .ir k
 | .b => .br
 | .s => .sr
 | _ => .unk
def wcCds : Nat → List WC → List Cd
 | _, [] => []
 | j, .sc c :: r => c :: wcCds j r
 | j, .slc _ :: r => .slr0 j :: wcCds (j + 1) r
def wcMem : List WC → List (Bool × Bool × List Cd)
 | [] => []
 | .sc _ :: r => wcMem r
 | .slc cds :: r => (false, true, cds.map colCd) :: wcMem r
def nSl : List WC → Nat
 | [] => 0
 | .sc _ :: r => nSl r
 | .slc _ :: r => nSl r + 1
def psSl : (slot j : Nat) → List (Bool × List WC) → List (Nat × Sh1)
 | _, _, [] => []
 | i, j, (true, wcs) :: r => (i, .ag (wcCds j wcs)) :: psSl (i + 1) (j + nSl wcs) r
 | i, j, (false, wcs) :: r => (i, .sc ((wcCds j wcs).headD .unk)) :: psSl (i + 1) (j + nSl wcs) r
def allWC : List (Bool × List WC) → List WC
 | [] => []
 | (_, wcs) :: r => wcs ++ allWC r
def psMem (ps : List (Bool × List WC)) : List (Bool × Bool × List Cd) := wcMem (allWC ps)
def shOf (ps : List (Bool × List WC)) : Sh := { n := ps.length, sl := psSl 0 0 ps, low := [], mem := psMem ps }
def ofV : Value → LV
 | .int k n => .i0 k n
 | .bool b => .b0 b
 | .string s => .s0 s
 | _ => .unk
def intAt (w : World) (v : Value) (esz r c : Nat) : Int :=
 match v with
 | .slice (some a) _ cap => if r < cap then (match w.cell? ((a.add (r * esz)).add c) with | some (.int _ n) => n | _ => 0) else 0
 | _ => 0
def boolAt (w : World) (v : Value) (esz r c : Nat) : Bool :=
 match v with
 | .slice (some a) _ cap => if r < cap then (match w.cell? ((a.add (r * esz)).add c) with | some (.bool n) => n | _ => false) else false
 | _ => false
def strAt (w : World) (v : Value) (esz r c : Nat) : ByteArray :=
 match v with
 | .slice (some a) _ cap => if r < cap then (match w.cell? ((a.add (r * esz)).add c) with | some (.string n) => n | _ => ⟨#[]⟩) else ⟨#[]⟩
 | _ => ⟨#[]⟩
def colsW (w : World) (v : Value) (esz : Nat) : Nat → List Cd → List LV
 | _, [] => []
 | c, .i k :: r => .i1 k (fun i => intAt w v esz i c) :: colsW w v esz (c + 1) r
 | c, .b :: r => .b1 (fun i => boolAt w v esz i c) :: colsW w v esz (c + 1) r
 | c, .s :: r => .s1 (fun i => strAt w v esz i c) :: colsW w v esz (c + 1) r
 | c, _ :: r => .unk :: colsW w v esz (c + 1) r
def lenOfV : Value → Nat
 | .slice _ len _ => len
 | _ => 0
def lvWs : Nat → List WC → List Value → List LV
 | j, .sc _ :: r, v :: vs => ofV v :: lvWs j r vs
 | j, .slc _ :: r, v :: vs => .slr j 0 (lenOfV v) :: lvWs (j + 1) r vs
 | _, _, _ => []
def memWs (w : World) : List WC → List Value → List PBlk
 | .sc _ :: r, _ :: vs => memWs w r vs
 | .slc cds :: r, v :: vs => ⟨false, true, colsW w v cds.length 0 cds⟩ :: memWs w r vs
 | _, _ => []
def bbOf (esz : Nat) : Value → Option BB
 | .slice (some a) _ cap => if cap = 0 then none else some ⟨a.block, a.off, esz, cap, cap⟩
 | _ => none
def injs : List WC → List Value → List (Option BB)
 | .sc _ :: r, _ :: vs => injs r vs
 | .slc cds :: r, v :: vs => bbOf cds.length v :: injs r vs
 | _, _ => []
theorem WFitL.length {w : World} : ∀ {c : List WC} {v : List Value}, WFitL w c v → c.length = v.length
 | [], [], _ => rfl
 | _ :: _, _ :: _, ⟨_, h⟩ => by simp [WFitL.length h]
theorem lens {w : World} : ∀ {c : List WC} {v : List Value}, WFitL w c v → (injs c v).length = nSl c ∧ (memWs w c v).length = nSl c
 | [], [], _ => ⟨rfl, rfl⟩
 | .sc _ :: _, _ :: _, ⟨_, h⟩ => by obtain ⟨h1, h2⟩ := lens h; exact ⟨h1, h2⟩
 | .slc _ :: _, _ :: _, ⟨_, h⟩ => by obtain ⟨h1, h2⟩ := lens h; simp [injs, memWs, nSl, h1, h2]
theorem fit_ofV {J : Inj} {c : Cd} {v : Value} (h : Fit1 c v) : Rel J (ofV v) v := by
 cases c <;> simp only [Fit1] at h
 ·obtain ⟨n, rfl, _⟩ := h; exact .i0 _ _
 ·obtain ⟨b, rfl⟩ := h; exact .b0 _
 ·obtain ⟨s, rfl, _⟩ := h; exact .s0 _
theorem rel_lvWs {w : World} {J : Inj} : ∀ {c : List WC} {v : List Value} {j : Nat}, WFitL w c v → (∀ i x, (injs c v)[i]? = some x → J (j + i) = x) → RelL J (lvWs j c v) v
 | [], [], _, _, _ => trivial
 | .sc _ :: c, _ :: v, j, ⟨h, k⟩, hJ => ⟨fit_ofV h, rel_lvWs k hJ⟩
 | .slc cds :: c, u :: v, j, ⟨h, k⟩, hJ => by
  refine ⟨?_, rel_lvWs (j := j + 1) k (fun i x hx => by have := hJ (i + 1) x (by simpa [injs] using hx); rwa [show j + (i + 1) = j + 1 + i by omega] at this)⟩
  have h0 := hJ 0 (bbOf cds.length u) (by simp [injs])
  rcases h with rfl | ⟨a, len, cap, rfl, hlc, hcm, hne, hread⟩
  ·exact .slrN _ _
  ·simp only [Nat.add_zero, bbOf] at h0
   show Rel J (.slr j 0 len) _
   by_cases hc : cap = 0
   ·subst hc
    obtain rfl : len = 0 := by omega
    exact .slrZ _ _ _
   ·rw [if_neg hc] at h0
    obtain ⟨cs, hl, hcell, hfit⟩ := hread 0 (by omega)
    have hpos : 0 < cds.length := List.length_pos_iff.2 hne
    have hspot : a.spot = none := by
     have h1 := hcell 0 hpos
     simp only [Nat.zero_mul] at h1
     have h2 : w.cell? a = cs[0]? := by simpa [Addr.add] using h1
     have h3 : cs[0]? = some cs[0] := List.getElem?_eq_getElem (by omega)
     rw [h3] at h2
     unfold World.cell? at h2
     split at h2
     ·split at h2
      ·cases h2
      ·rename_i hs; simpa using hs
     ·cases h2
    have := Rel.slr (J := J) (blk := j) (frm := 0) (len := len) (cap := cap) h0 (by simp; omega) hlc (by simp)
    obtain ⟨b, o, sp⟩ := a
    simp only at hspot
    subst hspot
    simpa using this
theorem colsW_get (w : World) (v : Value) (esz : Nat) : ∀ (cds : List Cd) (c q : Nat) (cd : Cd), cds[q]? = some cd → (colsW w v esz c cds)[q]? = some (match cd with
  | .i k => .i1 k (fun i => intAt w v esz i (c + q))
  | .b => .b1 (fun i => boolAt w v esz i (c + q))
  | .s => .s1 (fun i => strAt w v esz i (c + q))
  | _ => .unk)
 | [], _, _, _, h => by simp at h
 | cd0 :: r, c, 0, cd, h => by
  simp at h
  subst h
  cases cd0 <;> simp [colsW]
 | cd0 :: r, c, q + 1, cd, h => by
  have := colsW_get w v esz r (c + 1) q cd (by simpa using h)
  rw [show c + (q + 1) = c + 1 + q by omega]
  cases cd0 <;> simpa [colsW] using this
theorem colsW_len (w : World) (v : Value) (esz : Nat) : ∀ (cds : List Cd) (c : Nat), (colsW w v esz c cds).length = cds.length
 | [], _ => rfl
 | cd0 :: r, c => by cases cd0 <;> simp [colsW, colsW_len w v esz r]
theorem fit_get : ∀ {cds : List Cd} {cs : List Value} (q : Nat) (cd : Cd), FitL cds cs → cds[q]? = some cd → ∃ v, cs[q]? = some v ∧ Fit1 cd v
 | [], [], _, _, _, h => by simp at h
 | c :: cds, v :: cs, 0, cd, ⟨h, _⟩, hq => by simp at hq; subst hq; exact ⟨v, rfl, h⟩
 | c :: cds, v :: cs, q + 1, cd, ⟨_, h⟩, hq => by simpa using fit_get q cd h (by simpa using hq)
theorem relB_memWs {w : World} {J : Inj} : ∀ {c : List WC} {v : List Value}, WFitL w c v → ∀ (i : Nat) (bb : BB), (injs c v)[i]? = some (some bb) → ∃ pb, (memWs w c v)[i]? = some pb ∧ pb.own = false ∧ ∀ base, RelB base J w bb pb
 | [], [], _, i, bb, h => by simp [injs] at h
 | .sc _ :: c, _ :: v, ⟨_, k⟩, i, bb, h => relB_memWs k i bb h
 | .slc cds :: c, u :: v, ⟨_, k⟩, i + 1, bb, h => by simpa [memWs] using relB_memWs k i bb (by simpa [injs] using h)
 | .slc cds :: c, u :: v, ⟨hu, _⟩, 0, bb, h => by
  simp only [injs, List.getElem?_cons_zero, Option.some.injEq] at h
  refine ⟨_, rfl, rfl, fun base => ?_⟩
  rcases hu with rfl | ⟨a, len, cap, rfl, hlc, hcm, hne, hread⟩
  ·simp [bbOf] at h
  ·simp only [bbOf] at h
   by_cases hc : cap = 0
   ·rw [if_pos hc] at h; cases h
   ·rw [if_neg hc] at h
    injection h with h
    subst h
    have hpos : 0 < cds.length := List.length_pos_iff.2 hne
    have hspot : ∀ i q, i < cap → q < cds.length → ∃ x, w.cell? ((a.add (i * cds.length)).add q) = some x ∧ ((a.add (i * cds.length)).add q) = ⟨a.block, a.off + i * cds.length + q, none⟩ := by
     intro i q hi hq
     obtain ⟨cs, hl, hcell, hfit⟩ := hread i hi
     have h1 := hcell q hq
     rw [List.getElem?_eq_getElem (by omega)] at h1
     refine ⟨_, h1, ?_⟩
     have hs : ((a.add (i * cds.length)).add q).spot = none := by
      unfold World.cell? at h1
      split at h1
      ·split at h1
       ·cases h1
       ·rename_i hs; simpa using hs
      ·cases h1
     have : ((a.add (i * cds.length)).add q).block = a.block ∧ ((a.add (i * cds.length)).add q).off = a.off + i * cds.length + q := by
      constructor
      ·simp only [Addr.add]; split <;> split <;> rfl
      ·simp only [Addr.add]; split <;> split <;> simp_all <;> omega
     cases hh : (a.add (i * cds.length)).add q with
     | mk b o sp => rw [hh] at this hs; simp at this hs; rw [this.1, this.2, hs]
    refine ⟨(colsW_len _ _ _ _ _).symm, (fun e => by cases e), ?_, ?_, (fun e => by cases e)⟩
    ·obtain ⟨x, hx, he⟩ := hspot 0 0 (by omega) hpos
     rw [he] at hx
     have := World.block_lt_of_cell? w _ hx
     exact this
    ·intro r hr q hq
     simp only at hr hq
     obtain ⟨cs, hl, hcell, hfit⟩ := hread r hr
     obtain ⟨x, hx, he⟩ := hspot r q hr hq
     have hcq : cds[q]? = some cds[q] := by simp [hq]
     obtain ⟨y, hy, hf1⟩ := fit_get q _ hfit hcq
     have hxy : x = y := by
      have := hcell q hq
      rw [hx, hy] at this
      exact Option.some.inj this
     subst hxy
     refine ⟨x, by rw [he] at hx; exact hx, ?_⟩
     have hcol := colsW_get w (.slice (some a) len cap) cds.length cds 0 q _ hcq
     rw [Nat.zero_add] at hcol
     simp only [List.getD, hcol, Option.getD_some]
     clear hcol
     generalize hcd : cds[q] = cd at hf1
     cases cd <;> simp only [Fit1] at hf1
     ·obtain ⟨n, rfl, _⟩ := hf1
      simp only [LV.row, intAt, if_pos hr, hx]
      exact .i0 _ _
     ·obtain ⟨b, rfl⟩ := hf1
      simp only [LV.row, boolAt, if_pos hr, hx]
      exact .b0 _
     ·obtain ⟨s, rfl, _⟩ := hf1
      simp only [LV.row, strAt, if_pos hr, hx]
      exact .s0 _
def Cd.Bnd : (c : Cd) → {X : Type} → (X → Prop) → c.cons X → Prop
 | .i k, _, Q, t => (Lit.int k t.1).wf = true ∧ Q t.2
 | .b, _, Q, t => Q t.2
 | .s, _, Q, t => t.1.size ≤ maxLen ∧ Q t.2
 | .ir k, _, Q, t => (∀ i, (Lit.int k (t.1 i)).wf = true) ∧ Q t.2
 | .br, _, Q, t => Q t.2
 | .sr, _, Q, t => (∀ i, (t.1 i).size ≤ maxLen) ∧ Q t.2
 | .slr0 _, _, Q, t => t.1 ≤ maxLen ∧ Q t.2
 | .slr _, _, Q, t => Q t.2.2
 | .slf .., _, Q, t => Q t.2.2
 | .lit _, _, Q, t => Q t
 | .unk, _, Q, t => Q t
def cellsBnd : (cs : List Cd) → {X : Type} → (X → Prop) → cellsT cs X → Prop
 | [], _, Q, t => Q t
 | c :: r, _, Q, t => c.Bnd (cellsBnd r Q) t
def Sh1.Bnd : (h : Sh1) → {X : Type} → (X → Prop) → h.cons X → Prop
 | .sc c, _, Q, t => c.Bnd Q t
 | .ag cs, _, Q, t => cellsBnd cs Q t
def slBnd : (hs : List (Nat × Sh1)) → {X : Type} → (X → Prop) → slT hs X → Prop
 | [], _, Q, t => Q t
 | (_, h) :: r, _, Q, t => h.Bnd (slBnd r Q) t
def memBnd : (ms : List (Bool × Bool × List Cd)) → {X : Type} → (X → Prop) → memT ms X → Prop
 | [], _, Q, t => Q t
 | (_, _, cs) :: r, _, Q, t => cellsBnd cs (memBnd r Q) t
def argsBnd (ps : List (Bool × List WC)) (t : (shOf ps).T) : Prop :=
 slBnd (psSl 0 0 ps) (X := memT (psMem ps) Unit) (memBnd (psMem ps) (fun _ => True)) t
theorem cells_some {w : World} : ∀ {c : List WC} {v : List Value} {j : Nat} {X : Type} {Q : X → Prop} {x : X}, WFitL w c v → Q x → ∃ t, cellsGet (wcCds j c) (lvWs j c v) x = some t ∧ cellsBnd (wcCds j c) Q t
 | [], [], _, _, _, x, _, hQ => ⟨x, rfl, hQ⟩
 | .sc c0 :: c, u :: v, j, X, Q, x, ⟨h, k⟩, hQ => by
  obtain ⟨t, h1, h2⟩ := cells_some (j := j) k hQ
  cases c0 <;> simp only [WFit1, Fit1] at h
  ·obtain ⟨n, rfl, hw⟩ := h
   refine ⟨(n, t), ?_, hw, h2⟩
   simp [wcCds, lvWs, cellsGet, h1, ofV, Cd.get]
   rfl
  ·obtain ⟨b, rfl⟩ := h
   refine ⟨(b, t), ?_, h2⟩
   simp [wcCds, lvWs, cellsGet, h1, ofV, Cd.get]
   rfl
  ·obtain ⟨s, rfl, hs⟩ := h
   refine ⟨(s, t), ?_, hs, h2⟩
   simp [wcCds, lvWs, cellsGet, h1, ofV, Cd.get]
   rfl
 | .slc cds :: c, u :: v, j, X, Q, x, ⟨h, k⟩, hQ => by
  obtain ⟨t, h1, h2⟩ := cells_some (j := j + 1) k hQ
  refine ⟨(lenOfV u, t), ?_, ?_, h2⟩
  ·simp [wcCds, lvWs, cellsGet, h1, Cd.get]
   rfl
  ·rcases h with rfl | ⟨a, len, cap, rfl, hlc, hcm, _⟩
   ·exact Nat.zero_le _
   ·exact Nat.le_trans hlc hcm
theorem wf_zero (k : IntKind) : (Lit.int k 0).wf = true := by cases k <;> rfl
theorem col_some {w : World} {u : Value} {cds0 : List Cd} (hu : SlOk w cds0 FitL u) : ∀ (cds : List Cd) (c : Nat) {X : Type} {Q : X → Prop} {x : X},
  (∀ q cd, cds[q]? = some cd → cds0[c + q]? = some cd ∧ (∃ v, Fit1 cd v)) → Q x →
  ∃ t, cellsGet (cds.map colCd) (colsW w u cds0.length c cds) x = some t ∧ cellsBnd (cds.map colCd) Q t
 | [], _, _, _, x, _, hQ => ⟨x, rfl, hQ⟩
 | cd :: cds, c, X, Q, x, hsub, hQ => by
  obtain ⟨t, h1, h2⟩ := col_some hu cds (c + 1) (fun q cd' hq => by have := hsub (q + 1) cd' (by simpa using hq); rwa [show c + (q + 1) = c + 1 + q by omega] at this) hQ
  obtain ⟨hc, v, hv⟩ := hsub 0 cd rfl
  rw [Nat.add_zero] at hc
  have hcl : c < cds0.length := (List.getElem?_eq_some_iff.1 hc).1
  cases cd <;> simp only [Fit1] at hv
  ·rename_i k
   refine ⟨(fun i => intAt w u cds0.length i c, t), ?_, fun i => ?_, h2⟩
   ·show cellsGet (.ir k :: cds.map colCd) (.i1 k (fun i => intAt w u cds0.length i c) :: colsW w u cds0.length (c + 1) cds) x = _
    simp only [cellsGet, h1, Cd.get, decide_true, cond_true]
    rfl
   ·show (Lit.int k (intAt w u cds0.length i c)).wf = true
    rcases hu with rfl | ⟨a, len, cap, rfl, _, _, _, hread⟩
    ·exact wf_zero k
    ·simp only [intAt]
     by_cases hi : i < cap
     ·rw [if_pos hi]
      obtain ⟨cs, hl, hcell, hfit⟩ := hread i hi
      obtain ⟨y, hy, hf⟩ := fit_get c _ hfit hc
      obtain ⟨n, rfl, hw⟩ := hf
      rw [hcell c hcl, hy]
      exact hw
     ·rw [if_neg hi]; exact wf_zero k
  ·refine ⟨(fun i => boolAt w u cds0.length i c, t), ?_, h2⟩
   show cellsGet (.br :: cds.map colCd) (.b1 (fun i => boolAt w u cds0.length i c) :: colsW w u cds0.length (c + 1) cds) x = _
   simp only [cellsGet, h1, Cd.get]
   rfl
  ·refine ⟨(fun i => strAt w u cds0.length i c, t), ?_, fun i => ?_, h2⟩
   ·show cellsGet (.sr :: cds.map colCd) (.s1 (fun i => strAt w u cds0.length i c) :: colsW w u cds0.length (c + 1) cds) x = _
    simp only [cellsGet, h1, Cd.get]
    rfl
   ·show (strAt w u cds0.length i c).size ≤ maxLen
    rcases hu with rfl | ⟨a, len, cap, rfl, _, _, _, hread⟩
    ·exact Nat.zero_le _
    ·simp only [strAt]
     by_cases hi : i < cap
     ·rw [if_pos hi]
      obtain ⟨cs, hl, hcell, hfit⟩ := hread i hi
      obtain ⟨y, hy, hf⟩ := fit_get c _ hfit hc
      obtain ⟨n, rfl, hw⟩ := hf
      rw [hcell c hcl, hy]
      exact hw
     ·rw [if_neg hi]; exact Nat.zero_le _
def plainCds (cds : List Cd) : Bool := cds.all fun c => match c with | .i _ | .b | .s => true | _ => false
def plainWC : WC → Bool
 | .sc _ => true
 | .slc cds => plainCds cds
theorem plain_fit {cd : Cd} (h : (match cd with | .i _ | .b | .s => true | _ => false) = true) : ∃ v, Fit1 cd v := by
 cases cd <;> simp at h
 ·exact ⟨.int _ 0, 0, rfl, wf_zero _⟩
 ·exact ⟨.bool true, true, rfl⟩
 ·exact ⟨.string ⟨#[]⟩, _, rfl, Nat.zero_le _⟩
theorem mem_some {w : World} : ∀ {c : List WC} {v : List Value} {X : Type} {Q : X → Prop} {x : X}, c.all plainWC = true → WFitL w c v → Q x →
  ∃ t, memGet (wcMem c) (memWs w c v) x = some t ∧ memBnd (wcMem c) Q t
 | [], [], _, _, x, _, _, hQ => ⟨x, rfl, hQ⟩
 | .sc _ :: c, _ :: v, X, Q, x, hp, ⟨_, k⟩, hQ => by
  simp only [List.all_cons, Bool.and_eq_true] at hp
  obtain ⟨t, h1, h2⟩ := mem_some hp.2 k hQ
  exact ⟨t, h1, h2⟩
 | .slc cds :: c, u :: v, X, Q, x, hp, ⟨h, k⟩, hQ => by
  simp only [List.all_cons, Bool.and_eq_true] at hp
  obtain ⟨t, h1, h2⟩ := mem_some hp.2 k hQ
  obtain ⟨t', h3, h4⟩ := col_some h cds 0 (Q := memBnd (wcMem c) Q) (x := t) (fun q cd hq => ⟨by rw [Nat.zero_add]; exact hq, plain_fit (List.all_eq_true.1 hp.1 cd (List.mem_of_getElem? hq))⟩) h2
  refine ⟨t', ?_, h4⟩
  simp only [wcMem, memWs, memGet]
  rw [h1]
  simp only [Bool.not_false, Bool.true_or, beq_self_eq_true, Bool.and_self, cond_true]
  exact h3
def PFit (w : World) : Bool × List WC → Value → Prop
 | (true, wcs), v => ∃ cs : Array Value, v = .agg cs ∧ WFitL w wcs cs.toList
 | (false, wcs), v => WFitL w wcs [v]
def PFits (w : World) : List (Bool × List WC) → List Value → Prop
 | [], [] => True
 | p :: ps, v :: vs => PFit w p v ∧ PFits w ps vs
 | _, _ => False
def cellsOfP : Bool × List WC → Value → List Value
 | (true, _), v => v.cells.toList
 | (false, _), v => [v]
theorem PFit.cells {w : World} {p : Bool × List WC} {v : Value} (h : PFit w p v) : WFitL w p.2 (cellsOfP p v) := by
 obtain ⟨b, wcs⟩ := p
 cases b with
 | true => obtain ⟨cs, rfl, h⟩ := h; exact h
 | false => exact h
def slV : (slot j : Nat) → List (Bool × List WC) → List Value → List (Nat × PV)
 | i, j, (true, wcs) :: ps, v :: vs => (i, .a (lvWs j wcs v.cells.toList)) :: slV (i + 1) (j + nSl wcs) ps vs
 | i, j, (false, wcs) :: ps, v :: vs => (i, .s ((lvWs j wcs [v]).headD .unk)) :: slV (i + 1) (j + nSl wcs) ps vs
 | _, _, _, _ => []
def allVals : List (Bool × List WC) → List Value → List Value
 | p :: ps, v :: vs => cellsOfP p v ++ allVals ps vs
 | _, _ => []
def injV : List (Bool × List WC) → List Value → List (Option BB)
 | p :: ps, v :: vs => injs p.2 (cellsOfP p v) ++ injV ps vs
 | _, _ => []
theorem headD_map {J : Inj} {ls : List LV} {v : Value} (h : RelL J ls [v]) : Rel J (ls.headD .unk) v := by
 cases ls with
 | nil => cases h
 | cons l r => exact h.1
theorem slV_rel {w : World} {J : Inj} : ∀ {ps : List (Bool × List WC)} {vs : List Value} {i j : Nat}, PFits w ps vs → (∀ k x, (injV ps vs)[k]? = some x → J (j + k) = x) →
  ∀ t y, lookN t (slV i j ps vs) = some y → ∃ v, i ≤ t ∧ vs[t - i]? = some v ∧ RelP J y v
 | [], [], i, j, _, _, t, y, h => by simp [slV, lookN] at h
 | p :: ps, v :: vs, i, j, ⟨hp, hps⟩, hJ, t, y, h => by
  have hlen := (lens hp.cells).1
  have hJ1 : ∀ k x, (injs p.2 (cellsOfP p v))[k]? = some x → J (j + k) = x := fun k x hx => hJ k x (by
   simp only [injV]
   rw [List.getElem?_append_left (List.getElem?_eq_some_iff.1 hx).1]
   exact hx)
  have hJ2 : ∀ k x, (injV ps vs)[k]? = some x → J (j + nSl p.2 + k) = x := fun k x hx => by
   have := hJ (nSl p.2 + k) x (by
    simp only [injV]
    rw [List.getElem?_append_right (by omega), hlen, show nSl p.2 + k - nSl p.2 = k by omega]
    exact hx)
   rwa [show j + (nSl p.2 + k) = j + nSl p.2 + k by omega] at this
  have hrel := rel_lvWs hp.cells hJ1
  obtain ⟨b, wcs⟩ := p
  cases b with
  | true =>
   obtain ⟨cs, rfl, hw⟩ := hp
   simp only [slV] at h
   rw [lookN_cons] at h
   split at h
   ·rename_i e
    subst e
    cases h
    exact ⟨_, Nat.le_refl _, by simp, cs, rfl, hrel⟩
   ·obtain ⟨u, h1, h2, h3⟩ := slV_rel hps hJ2 t y h
    exact ⟨u, by omega, by rw [show t - i = (t - (i + 1)) + 1 by omega]; simpa using h2, h3⟩
  | false =>
   simp only [slV] at h
   rw [lookN_cons] at h
   split at h
   ·rename_i e
    subst e
    cases h
    exact ⟨_, Nat.le_refl _, by simp, headD_map hrel⟩
   ·obtain ⟨u, h1, h2, h3⟩ := slV_rel hps hJ2 t y h
    exact ⟨u, by omega, by rw [show t - i = (t - (i + 1)) + 1 by omega]; simpa using h2, h3⟩
theorem slV_len : ∀ (ps : List (Bool × List WC)) (vs : List Value) (i j : Nat), ps.length = vs.length → (slV i j ps vs).length = ps.length
 | [], [], _, _, _ => rfl
 | (true, wcs) :: ps, v :: vs, i, j, h => by simp [slV, slV_len ps vs _ _ (by simpa using h)]
 | (false, wcs) :: ps, v :: vs, i, j, h => by simp [slV, slV_len ps vs _ _ (by simpa using h)]
theorem PFits.length {w : World} : ∀ {ps : List (Bool × List WC)} {vs : List Value}, PFits w ps vs → ps.length = vs.length
 | [], [], _ => rfl
 | _ :: _, _ :: _, ⟨_, h⟩ => by simp [PFits.length h]
theorem injs_append : ∀ {a b : List WC} {x y : List Value}, a.length = x.length → injs (a ++ b) (x ++ y) = injs a x ++ injs b y
 | [], b, [], y, _ => rfl
 | .sc _ :: a, b, _ :: x, y, h => by simpa [injs] using injs_append (a := a) (by simpa using h)
 | .slc _ :: a, b, _ :: x, y, h => by simpa [injs] using injs_append (a := a) (by simpa using h)
theorem injV_all {w : World} : ∀ {ps : List (Bool × List WC)} {vs : List Value}, PFits w ps vs → injs (allWC ps) (allVals ps vs) = injV ps vs
 | [], [], _ => rfl
 | p :: ps, v :: vs, ⟨hp, hps⟩ => by
  simp only [allWC, allVals, injV]
  rw [injs_append hp.cells.length, injV_all hps]
theorem allFit {w : World} : ∀ {ps : List (Bool × List WC)} {vs : List Value}, PFits w ps vs → WFitL w (allWC ps) (allVals ps vs)
 | [], [], _ => trivial
 | _ :: _, _ :: _, ⟨hp, hps⟩ => hp.cells.append (allFit hps)
theorem memWs_own (w : World) : ∀ (c : List WC) (us : List Value) (k : Nat) (pb : PBlk), (memWs w c us)[k]? = some pb → pb.own = false
 | [], us, k, pb, h => by simp [memWs] at h
 | .sc _ :: c, [], k, pb, h => by simp [memWs] at h
 | .slc _ :: c, [], k, pb, h => by simp [memWs] at h
 | .sc _ :: c, u :: us, k, pb, h => memWs_own w c us k pb (by simpa [memWs] using h)
 | .slc cds :: c, u :: us, 0, pb, h => by simp [memWs] at h; subst h; rfl
 | .slc cds :: c, u :: us, k + 1, pb, h => memWs_own w c us k pb (by simpa [memWs] using h)
theorem slV_some {w : World} : ∀ {ps : List (Bool × List WC)} {vs : List Value} {i j : Nat} {X : Type} {Q : X → Prop} {x : X}, PFits w ps vs → Q x →
  ∃ t, slGet (psSl i j ps) (slV i j ps vs) x = some t ∧ slBnd (psSl i j ps) Q t
 | [], [], _, _, _, _, x, _, hQ => ⟨x, rfl, hQ⟩
 | (true, wcs) :: ps, v :: vs, i, j, X, Q, x, ⟨hp, hps⟩, hQ => by
  obtain ⟨t, h1, h2⟩ := slV_some (i := i + 1) (j := j + nSl wcs) hps hQ
  obtain ⟨t', h3, h4⟩ := cells_some (j := j) hp.cells h2
  refine ⟨t', ?_, h4⟩
  simp only [psSl, slV, slGet, Nat.beq_refl, cond_true]
  rw [h1]
  exact h3
 | (false, wcs) :: ps, v :: vs, i, j, X, Q, x, ⟨hp, hps⟩, hQ => by
  obtain ⟨t, h1, h2⟩ := slV_some (i := i + 1) (j := j + nSl wcs) hps hQ
  obtain ⟨t', h3, h4⟩ := cells_some (j := j) hp.cells h2
  have hp' : WFitL w wcs [v] := hp
  match wcs, hp' with
  | [wc], _ =>
   cases wc with
   | sc c =>
    have h3' : (cellsGet [] [] t).bind (fun y => c.get (ofV v) y) = some t' := h3
    refine ⟨t', ?_, h4⟩
    simp only [psSl, slV, slGet, Nat.beq_refl, cond_true]
    rw [h1]
    exact h3'
   | slc cds =>
    have h3' : (cellsGet [] [] t).bind (fun y => (Cd.slr0 j).get (.slr j 0 (lenOfV v)) y) = some t' := h3
    refine ⟨t', ?_, h4⟩
    simp only [psSl, slV, slGet, Nat.beq_refl, cond_true]
    rw [h1]
    exact h3'
theorem args_state {w : World} {ps : List (Bool × List WC)} {vals : List Value} (hpl : (allWC ps).all plainWC = true) (hp : PFits w ps vals) :
  ∃ t : (shOf ps).T, argsBnd ps t ∧ ∃ J, RelS w.heap.size w J ((shOf ps).put t) vals.toArray [] w := by
 obtain ⟨tm, hm1, hm2⟩ := mem_some (Q := fun (_ : Unit) => True) (x := ()) hpl (allFit hp) trivial
 obtain ⟨t, h1, h2⟩ := slV_some (i := 0) (j := 0) (Q := memBnd (psMem ps) (fun (_ : Unit) => True)) (x := tm) hp hm2
 let J : Inj := fun b => ((injV ps vals)[b]?).join
 have hJ : ∀ k x, (injV ps vals)[k]? = some x → J (0 + k) = x := fun k x hx => by simp [J, hx]
 let s : St := { fr := ⟨ps.length, slV 0 0 ps vals⟩, low := [], mem := memWs w (allWC ps) (allVals ps vals) }
 have hget : (shOf ps).get s = some t := by
  unfold Sh.get
  have e1 : Nat.beq (shOf ps).n s.fr.n = true := Nat.beq_refl _
  rw [e1]
  simp only [cond_true]
  show ((memGet (psMem ps) (memWs w (allWC ps) (allVals ps vals)) ()).bind fun x => (lowGet [] [] x).bind fun y => slGet (psSl 0 0 ps) (slV 0 0 ps vals) y) = some t
  unfold psMem
  rw [hm1]
  exact h1
 have hS : RelS w.heap.size w J s vals.toArray [] w := by
  refine ⟨⟨by simp [s, hp.length], fun u y hy => ?_⟩, trivial, ⟨fun b bb hb => ?_, fun b b' bb bb' pb hpb ho => ?_⟩, Below.refl _ _, Nat.le_refl _⟩
  ·obtain ⟨v, _, h3, h4⟩ := slV_rel hp hJ u y hy
   exact ⟨v, by simpa using h3, h4⟩
  ·have hb' : (injV ps vals)[b]? = some (some bb) := by
    simp only [J] at hb
    cases hq : (injV ps vals)[b]? with
    | none => rw [hq] at hb; cases hb
    | some z => rw [hq] at hb; simp at hb; rw [hb]
   rw [← injV_all hp] at hb'
   obtain ⟨pb, h3, _, h4⟩ := relB_memWs (J := J) (allFit hp) b bb hb'
   exact ⟨pb, h3, h4 _⟩
  ·rw [memWs_own w _ _ b pb hpb] at ho; cases ho
 exact ⟨t, h2, J, Sh.get_ok hget hS⟩
theorem call_of {P : Program} {E : Env} (hT : EnvT P E) (hI : EnvI P E) (hD : DrawOk P E) (d : Nat) {f : FuncId} {fn : Func} (hf : P.funcs[f]? = some fn)
  {ps : List (Bool × List WC)} (hpl : (allWC ps).all plainWC = true) (hkey : (psSl 0 0 ps).map (·.1) = List.range ps.length)
  {out : PV → St → Option Bool} (hout : ∀ pv s, out pv s = some true → pv = .s (.b0 true))
  (hb : ∀ t : (shOf ps).T, argsBnd ps t → exFn E (hdl E d) [f] fn (slVals ((shOf ps).put t).fr.sl) ⟨⟨0, []⟩, [], ((shOf ps).put t).mem⟩ out = some true)
  {w : World} {vals : List Value} (hp : PFits w ps vals) :
  Calls P f vals.toArray w fun e w' => e = .returned (.bool true) ∧ Below w.heap.size w w' := by
 obtain ⟨t, hbnd, J, hS⟩ := args_state hpl hp
 have hargs : RelPs J (slVals ((shOf ps).put t).fr.sl) vals := by
  refine frame_vals (n := ps.length) hS.fr ?_
  exact (slPut_keys (psSl 0 0 ps) (X := lowT [] (memT (psMem ps) Unit)) t).trans hkey
 have hS3 : RelS w.heap.size w J ⟨⟨0, []⟩, [], ((shOf ps).put t).mem⟩ #[] [] w := ⟨⟨rfl, fun t x hx => by simp [lookN] at hx⟩, trivial, hS.mem, hS.below, hS.base⟩
 refine (fn_sound (ctx := [f]) hT (hdl_ok hT hI hD d) hD hf (fun c hc => hI.loops f fn c [] hf hc) (hb t hbnd) hS3 hargs).mono fun e w' ⟨v, hev, J', pv, s', hres, hS', hrv⟩ => ?_
 have := hout _ _ hres
 subst this
 cases hrv
 exact ⟨hev, hS'.below⟩
def outBool (pv : PV) (_ : St) : Option Bool :=
 match pv with
 | .v (.sc (.b0 b)) => some b
 | _ => none
theorem outBool_true (pv : PV) (s : St) (h : outBool pv s = some true) : pv = .s (.b0 true) := by
 unfold outBool at h
 split at h
 ·injection h with h; subst h; rfl
 ·cases h
end Go.Sy
