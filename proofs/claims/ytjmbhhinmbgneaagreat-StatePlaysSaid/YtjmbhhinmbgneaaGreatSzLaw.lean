/- The evaluator. -/
import Derived.Test.YtjmbhhinmbgneaaGreatSzTab
import Derived.WalkKit
import Derived.ProofKit
import Derived.OpenShut
import Derived.Carry
namespace Go.Sy
open Go.RowKit (Below)
open Go.ChangeShapes Go.WideShapes
inductive WC where
 | sc (c : Cd)
 | slc (cds : List Cd)
def flatFs (P : Program) (rec' : TypeId → Option (List Cd)) : Nat → List Field → Option (List Cd)
 | _, [] => some []
 | off, f :: r => bif Nat.beq f.offset off then (rec' f.type).bind fun c => bif Nat.beq (P.cellsOf f.type) c.length then (flatFs P rec' (off + c.length) r).map (c ++ ·) else none else none
def flatB (P : Program) : Nat → TypeId → Option (List Cd)
 | 0, _ => none
 | n + 1, t => match P.underlying t with
  | some .bool => some [.b]
  | some (.int k) => some [.i k]
  | some .string => some [.s]
  | some (.struct fs) => (flatFs P (flatB P n) 0 fs.toList).bind fun c => bif Nat.beq (P.cellsOf t) c.length then some c else none
  | some (.array m e) => (flatB P n e).bind fun c => bif Nat.beq (P.cellsOf e) c.length && Nat.beq (P.cellsOf t) (m * c.length) then some ((List.replicate m c).flatten) else none
  | _ => none
def wideFs (P : Program) (rec' : TypeId → Option (List WC)) : Nat → List Field → Option (List WC)
 | _, [] => some []
 | off, f :: r => bif Nat.beq f.offset off then (rec' f.type).bind fun c => bif Nat.beq (P.cellsOf f.type) c.length then (wideFs P rec' (off + c.length) r).map (c ++ ·) else none else none
def wideB (P : Program) : Nat → TypeId → Option (List WC)
 | 0, _ => none
 | n + 1, t => match P.underlying t with
  | some .bool => some [.sc .b]
  | some (.int k) => some [.sc (.i k)]
  | some .string => some [.sc .s]
  | some (.slice e) => (flatB P n e).bind fun c => bif Nat.beq (P.cellsOf e) c.length && !c.isEmpty then some [.slc c] else none
  | some (.struct fs) => (wideFs P (wideB P n) 0 fs.toList).bind fun c => bif Nat.beq (P.cellsOf t) c.length then some c else none
  | some (.array m e) => (wideB P n e).bind fun c => bif Nat.beq (P.cellsOf e) c.length && Nat.beq (P.cellsOf t) (m * c.length) then some ((List.replicate m c).flatten) else none
  | _ => none
def Fit1 : Cd → Value → Prop
 | .i k, v => ∃ n, v = .int k n ∧ (Lit.int k n).wf = true
 | .b, v => ∃ b, v = .bool b
 | .s, v => ∃ s, v = .string s ∧ s.size ≤ maxLen
 | _, _ => False
def SlOk (w : World) (cds : List Cd) (FL : List Cd → List Value → Prop) (v : Value) : Prop :=
 v = .slice none 0 0 ∨ ∃ a len cap, v = .slice (some a) len cap ∧ len ≤ cap ∧ cap ≤ maxLen ∧ cds ≠ [] ∧
  ∀ i, i < cap → ∃ cs : List Value, cs.length = cds.length ∧ (∀ q, q < cds.length → w.cell? ((a.add (i * cds.length)).add q) = cs[q]?) ∧ FL cds cs
def FitL : List Cd → List Value → Prop
 | [], [] => True
 | c :: cs, v :: vs => Fit1 c v ∧ FitL cs vs
 | _, _ => False
def WFit1 (w : World) : WC → Value → Prop
 | .sc c, v => Fit1 c v
 | .slc cds, v => SlOk w cds FitL v
def WFitL (w : World) : List WC → List Value → Prop
 | [], [] => True
 | c :: cs, v :: vs => WFit1 w c v ∧ WFitL w cs vs
 | _, _ => False
theorem FitL.length : ∀ {c : List Cd} {v : List Value}, FitL c v → c.length = v.length
 | [], [], _ => rfl
 | _ :: _, _ :: _, ⟨_, h⟩ => by simp [FitL.length h]
theorem FitL.append : ∀ {a : List Cd} {x : List Value} {b : List Cd} {y : List Value}, FitL a x → FitL b y → FitL (a ++ b) (x ++ y)
 | [], [], _, _, _, h => h
 | _ :: _, _ :: _, _, _, ⟨h, k⟩, h' => ⟨h, FitL.append k h'⟩
theorem WFitL.append {w : World} : ∀ {a : List WC} {x : List Value} {b : List WC} {y : List Value}, WFitL w a x → WFitL w b y → WFitL w (a ++ b) (x ++ y)
 | [], [], _, _, _, h => h
 | _ :: _, _ :: _, _, _, ⟨h, k⟩, h' => ⟨h, WFitL.append k h'⟩
theorem drop_take_drop {α : Type} (l : List α) (off n : Nat) : l.drop off = (l.drop off).take n ++ l.drop (off + n) := by
 rw [← List.drop_drop]
 exact (List.take_append_drop n (l.drop off)).symm
section read
variable {H : Type} {enc : TypeId × Value → H} {P : Program} {w : World} {sp : Nat → Bool} {held : Bool}
theorem flat_read : ∀ (n : Nat) (t : TypeId) (cds : List Cd), flatB P n t = some cds → ∀ (fuel : Nat) (cs : List Value) (x : DataW H × List MemPlace), DataW.trod enc P w 0 sp held fuel t cs = some x → FitL cds cs
 | 0, _, _, h => by cases h
 | n + 1, t, cds, h => by
  intro fuel cs x hx
  unfold flatB at h
  split at h
  ·rename_i hu
   injection h with h; subst h
   obtain ⟨b, rfl, _⟩ := DataW.trod_bool hu hx
   exact ⟨⟨b, rfl⟩, trivial⟩
  ·rename_i k hu
   injection h with h; subst h
   obtain ⟨m, rfl, _, hw⟩ := DataW.trod_int hu hx
   exact ⟨⟨m, rfl, hw⟩, trivial⟩
  ·rename_i hu
   injection h with h; subst h
   obtain ⟨s, rfl, _, hs⟩ := DataW.trod_string hu hx
   exact ⟨⟨s, rfl, hs⟩, trivial⟩
  ·rename_i fs hu
   obtain ⟨c, h1, h2⟩ := bind_some' h
   obtain ⟨h3, h4⟩ := cond_some h2
   injection h4 with h4; subst h4
   obtain ⟨xs, m, _, _, hlen, _, hf⟩ := DataW.trod_struct hu hx
   have key : ∀ (r : List Field) (off : Nat) (c : List Cd), flatFs P (flatB P n) off r = some c → (∀ f ∈ r, ∃ y, DataW.trod enc P w 0 sp held m f.type ((cs.drop f.offset).take (P.cellsOf f.type)) = some y) →
     off + c.length = cs.length → FitL c (cs.drop off) := by
    intro r
    induction r with
    | nil =>
     intro off c h _ hl
     simp [flatFs] at h
     subst h
     have : cs.drop off = [] := by simp at hl; exact List.drop_eq_nil_of_le (by omega)
     rw [this]
     trivial
    | cons f r ih =>
     intro off c h hall hl
     simp only [flatFs] at h
     obtain ⟨e1, h⟩ := cond_some h
     obtain ⟨c1, e2, h⟩ := bind_some' h
     obtain ⟨e3, h⟩ := cond_some h
     obtain ⟨c2, e4, e5⟩ := Option.map_eq_some_iff.1 h
     subst e5
     have e1 := nat_beq e1
     have e3 := nat_beq e3
     obtain ⟨y, hy⟩ := hall f (by simp)
     rw [e1, e3] at hy
     rw [drop_take_drop cs off c1.length]
     exact (flat_read n f.type c1 e2 m _ y hy).append (ih (off + c1.length) c2 e4 (fun g hg => hall g (by simp [hg])) (by simp at hl; omega))
   have hall : ∀ f ∈ fs.toList, ∃ y, DataW.trod enc P w 0 sp held m f.type ((cs.drop f.offset).take (P.cellsOf f.type)) = some y := by
    intro f hfm
    obtain ⟨i, hi⟩ := List.mem_iff_getElem?.1 hfm
    have hil : i < xs.length := by
     rename_i hxl
     have := (List.getElem?_eq_some_iff.1 hi).1
     rw [hxl]; simpa using this
    exact ⟨xs[i], by rw [hf i f (by rw [← Array.getElem?_toList]; exact hi)]; simp [hil]⟩
   have := key fs.toList 0 c h1 hall (by rw [Nat.zero_add, hlen, nat_beq h3])
   simpa using this
  ·rename_i mm e hu
   obtain ⟨c, h1, h2⟩ := bind_some' h
   obtain ⟨h3, h4⟩ := cond_some h2
   injection h4 with h4; subst h4
   simp only [Bool.and_eq_true] at h3
   have h5 := nat_beq h3.1
   have h6 := nat_beq h3.2
   obtain ⟨xs, m, _, _, hlen, hxl, hf⟩ := DataW.trod_array hu hx
   have key : ∀ (k i : Nat), i + k = mm → FitL ((List.replicate k c).flatten) (cs.drop (i * c.length)) := by
    intro k
    induction k with
    | zero =>
     intro i hi
     have : cs.drop (i * c.length) = [] := List.drop_eq_nil_of_le (by rw [hlen, h6]; rw [show i = mm by omega]; exact Nat.le_refl _)
     simp only [List.replicate_zero, List.flatten_nil]
     rw [this]
     trivial
    | succ k ih =>
     intro i hi
     rw [List.replicate_succ, List.flatten_cons, drop_take_drop cs (i * c.length) c.length]
     have hy := hf i (by omega)
     rw [h5] at hy
     have hil : i < xs.length := by omega
     refine (flat_read n e c h1 m _ xs[i] (by rw [hy]; simp [hil])).append ?_
     have := ih (i + 1) (by omega)
     rwa [Nat.succ_mul] at this
   have := key mm 0 (by omega)
   simpa using this
  ·cases h
theorem wide_read (hsp : ∀ b, sp b = true) : ∀ (n : Nat) (t : TypeId) (cds : List WC), wideB P n t = some cds → ∀ (fuel : Nat) (cs : List Value) (x : DataW H × List MemPlace), DataW.trod enc P w 0 sp held fuel t cs = some x → WFitL w cds cs
 | 0, _, _, h => by cases h
 | n + 1, t, cds, h => by
  intro fuel cs x hx
  unfold wideB at h
  split at h
  ·rename_i hu
   injection h with h; subst h
   obtain ⟨b, rfl, _⟩ := DataW.trod_bool hu hx
   exact ⟨⟨b, rfl⟩, trivial⟩
  ·rename_i k hu
   injection h with h; subst h
   obtain ⟨m, rfl, _, hw⟩ := DataW.trod_int hu hx
   exact ⟨⟨m, rfl, hw⟩, trivial⟩
  ·rename_i hu
   injection h with h; subst h
   obtain ⟨s, rfl, _, hs⟩ := DataW.trod_string hu hx
   exact ⟨⟨s, rfl, hs⟩, trivial⟩
  ·rename_i e hu
   obtain ⟨c, h1, h2⟩ := bind_some' h
   obtain ⟨h3, h4⟩ := cond_some h2
   injection h4 with h4; subst h4
   simp only [Bool.and_eq_true] at h3
   have h5 := nat_beq h3.1
   have hne : c ≠ [] := by intro e; rw [e] at h3; simp at h3
   rcases DataW.trod_slice hu hx with ⟨rfl, _⟩ | ⟨a, len, cap, elems, rest, m, _, rfl, _, _, hlc, hcm, hel, hread, hspare, _⟩
   ·exact ⟨.inl rfl, trivial⟩
   ·refine ⟨.inr ⟨a, len, cap, rfl, hlc, hcm, hne, fun i hi => ?_⟩, trivial⟩
    obtain ⟨hrl, hrest⟩ := hspare (hsp _)
    have hex : ∃ cells y, w.cells? 0 (a.add (i * P.cellsOf e)) (P.cellsOf e) = some cells ∧ DataW.trod enc P w 0 sp held m e cells = some y := by
     by_cases hil : i < len
     ·have h6 := hread i hil
      have : i < elems.length := by omega
      rw [List.getElem?_eq_getElem this] at h6
      obtain ⟨cells, h7, h8⟩ := bind_some' h6
      exact ⟨cells, _, h7, h8⟩
     ·have h6 := hrest (i - len) (by omega)
      have : i - len < rest.length := by omega
      rw [List.getElem?_eq_getElem this, show len + (i - len) = i by omega] at h6
      obtain ⟨cells, h7, h8⟩ := bind_some' h6
      exact ⟨cells, _, h7, h8⟩
    obtain ⟨cells, y, h7, h8⟩ := hex
    obtain ⟨_, hl, hcell⟩ := World.cells?_some h7
    rw [h5] at hl hcell
    exact ⟨cells, hl, fun q hq => hcell q hq, flat_read n e c h1 m cells y h8⟩
  ·rename_i fs hu
   obtain ⟨c, h1, h2⟩ := bind_some' h
   obtain ⟨h3, h4⟩ := cond_some h2
   injection h4 with h4; subst h4
   obtain ⟨xs, m, _, _, hlen, hxl, hf⟩ := DataW.trod_struct hu hx
   have key : ∀ (r : List Field) (off : Nat) (c : List WC), wideFs P (wideB P n) off r = some c → (∀ f ∈ r, ∃ y, DataW.trod enc P w 0 sp held m f.type ((cs.drop f.offset).take (P.cellsOf f.type)) = some y) →
     off + c.length = cs.length → WFitL w c (cs.drop off) := by
    intro r
    induction r with
    | nil =>
     intro off c h _ hl
     simp [wideFs] at h
     subst h
     have : cs.drop off = [] := by simp at hl; exact List.drop_eq_nil_of_le (by omega)
     rw [this]
     trivial
    | cons f r ih =>
     intro off c h hall hl
     simp only [wideFs] at h
     obtain ⟨e1, h⟩ := cond_some h
     obtain ⟨c1, e2, h⟩ := bind_some' h
     obtain ⟨e3, h⟩ := cond_some h
     obtain ⟨c2, e4, e5⟩ := Option.map_eq_some_iff.1 h
     subst e5
     have e1 := nat_beq e1
     have e3 := nat_beq e3
     obtain ⟨y, hy⟩ := hall f (by simp)
     rw [e1, e3] at hy
     rw [drop_take_drop cs off c1.length]
     exact (wide_read hsp n f.type c1 e2 m _ y hy).append (ih (off + c1.length) c2 e4 (fun g hg => hall g (by simp [hg])) (by simp at hl; omega))
   have hall : ∀ f ∈ fs.toList, ∃ y, DataW.trod enc P w 0 sp held m f.type ((cs.drop f.offset).take (P.cellsOf f.type)) = some y := by
    intro f hfm
    obtain ⟨i, hi⟩ := List.mem_iff_getElem?.1 hfm
    have hil : i < xs.length := by
     have := (List.getElem?_eq_some_iff.1 hi).1
     rw [hxl]; simpa using this
    exact ⟨xs[i], by rw [hf i f (by rw [← Array.getElem?_toList]; exact hi)]; simp [hil]⟩
   have := key fs.toList 0 c h1 hall (by rw [Nat.zero_add, hlen, nat_beq h3])
   simpa using this
  ·rename_i mm e hu
   obtain ⟨c, h1, h2⟩ := bind_some' h
   obtain ⟨h3, h4⟩ := cond_some h2
   injection h4 with h4; subst h4
   simp only [Bool.and_eq_true] at h3
   have h5 := nat_beq h3.1
   have h6 := nat_beq h3.2
   obtain ⟨xs, m, _, _, hlen, hxl, hf⟩ := DataW.trod_array hu hx
   have key : ∀ (k i : Nat), i + k = mm → WFitL w ((List.replicate k c).flatten) (cs.drop (i * c.length)) := by
    intro k
    induction k with
    | zero =>
     intro i hi
     have : cs.drop (i * c.length) = [] := List.drop_eq_nil_of_le (by rw [hlen, h6]; rw [show i = mm by omega]; exact Nat.le_refl _)
     simp only [List.replicate_zero, List.flatten_nil]
     rw [this]
     trivial
    | succ k ih =>
     intro i hi
     rw [List.replicate_succ, List.flatten_cons, drop_take_drop cs (i * c.length) c.length]
     have hy := hf i (by omega)
     rw [h5] at hy
     have hil : i < xs.length := by omega
     refine (wide_read hsp n e c h1 m _ xs[i] (by rw [hy]; simp [hil])).append ?_
     have := ih (i + 1) (by omega)
     rwa [Nat.succ_mul] at this
   have := key mm 0 (by omega)
   simpa using this
  ·cases h
end read
end Go.Sy
