/- The evaluator. -/
import Derived.Test.YtjmbhhinmbgneaaGreatSzCode
namespace Go.Sy
open Go.RowKit (Below)
mutual
def LV.refs : LV → List Nat
 | .p b _ _ _ => [b]
 | .slr b _ _ => [b]
 | .slf b _ _ _ _ _ => [b]
 | .fn _ _ cap => LV.refsL cap
 | _ => []
def LV.refsL : List LV → List Nat
 | [] => []
 | l :: r => l.refs ++ LV.refsL r
end
mutual
def LV.ren (m : Nat → Nat) : LV → LV
 | .p b r o y => .p (m b) r o y
 | .slr b f l => .slr (m b) f l
 | .slf b o e c f l => .slf (m b) o e c f l
 | .fn f k cap => .fn f k (LV.renL m cap)
 | .i0 k n => .i0 k n
 | .i1 k f => .i1 k f
 | .b0 b => .b0 b
 | .b1 f => .b1 f
 | .s0 b => .s0 b
 | .s1 f => .s1 f
 | .pn => .pn
 | .sln => .sln
 | .fnn => .fnn
 | .unk => .unk
def LV.renL (m : Nat → Nat) : List LV → List LV
 | [] => []
 | l :: r => l.ren m :: LV.renL m r
end
def V1.refs : V1 → List Nat
 | .sc l => l.refs
 | .ag ls => LV.refsL ls
def V1.ren (m : Nat → Nat) : V1 → V1
 | .sc l => .sc (l.ren m)
 | .ag ls => .ag (LV.renL m ls)
def V1.refsL : List V1 → List Nat
 | [] => []
 | x :: r => x.refs ++ V1.refsL r
def V1.renL (m : Nat → Nat) : List V1 → List V1
 | [] => []
 | x :: r => x.ren m :: V1.renL m r
def PV.refs : PV → List Nat
 | .v x => x.refs
 | .tup xs => V1.refsL xs
def PV.ren (m : Nat → Nat) : PV → PV
 | .v x => .v (x.ren m)
 | .tup xs => .tup (V1.renL m xs)
def selSl : List Nat → List (Nat × PV) → List (Nat × PV)
 | [], _ => []
 | t :: ks, sl => match lookN t sl with
  | some x => (t, x) :: selSl ks sl
  | none => selSl ks sl
def slRefs : List (Nat × PV) → List Nat
 | [] => []
 | (_, x) :: r => x.refs ++ slRefs r
def slRen (m : Nat → Nat) : List (Nat × PV) → List (Nat × PV)
 | [] => []
 | (t, x) :: r => (t, x.ren m) :: slRen m r
def selLow : List (List Nat) → List Fr → Option (List Fr)
 | [], [] => some []
 | ks :: kss, f :: fs => (selLow kss fs).map (⟨f.n, selSl ks f.sl⟩ :: ·)
 | _, _ => none
def lowRefs : List Fr → List Nat
 | [] => []
 | f :: r => slRefs f.sl ++ lowRefs r
def lowRen (m : Nat → Nat) : List Fr → List Fr
 | [] => []
 | f :: r => ⟨f.n, slRen m f.sl⟩ :: lowRen m r
def memN (b : Nat) : List Nat → Bool
 | [] => false
 | c :: r => Nat.beq b c || memN b r
def addN (ids : List Nat) : List Nat → List Nat
 | [] => ids
 | b :: r => addN (bif memN b ids then ids else ids ++ [b]) r
def colRefs (mem : List PBlk) (b : Nat) : List Nat := match mem[b]? with
 | some pb => LV.refsL pb.cols
 | none => []
def closeN (mem : List PBlk) : (fuel i : Nat) → List Nat → List Nat
 | 0, _, ids => ids
 | f + 1, i, ids => match ids[i]? with
  | some b => closeN mem f (i + 1) (addN ids (colRefs mem b))
  | none => ids
def idxN (b : Nat) : List Nat → Nat
 | [] => 0
 | c :: r => bif Nat.beq b c then 0 else idxN b r + 1
def allIn (ids : List Nat) : List Nat → Bool
 | [] => true
 | b :: r => memN b ids && allIn ids r
def nodupN : List Nat → Bool
 | [] => true
 | b :: r => !(memN b r) && nodupN r
def blkAt (m : Nat → Nat) (mem : List PBlk) (ids : List Nat) (b : Nat) : Option PBlk :=
 match mem[b]? with
 | some pb => bif allIn ids (LV.refsL pb.cols) then some { pb with cols := LV.renL m pb.cols } else none
 | none => none
def canonSt (keep : List Nat) (kl : List (List Nat)) (s : St) : Option St :=
 let sl := selSl keep s.fr.sl
 (selLow kl s.low).bind fun low =>
  let ids := closeN s.mem (s.mem.length + 1) 0 (addN (addN [] (slRefs sl)) (lowRefs low))
  let m := fun b => idxN b ids
  bif nodupN ids && allIn ids (slRefs sl) && allIn ids (lowRefs low) then
   (allSome (ids.map (blkAt m s.mem ids))).map fun mem => { fr := ⟨s.fr.n, slRen m sl⟩, low := lowRen m low, mem }
  else none
theorem memN_iff {b : Nat} : ∀ {l : List Nat}, memN b l = true ↔ b ∈ l
 | [] => by simp [memN]
 | c :: r => by
  simp only [memN, Bool.or_eq_true, List.mem_cons, memN_iff (l := r)]
  constructor
  ·rintro (h | h)
   ·exact .inl (nat_beq h)
   ·exact .inr h
  ·rintro (h | h)
   ·subst h; exact .inl (Nat.beq_refl _)
   ·exact .inr h
theorem allIn_iff {ids : List Nat} : ∀ {l : List Nat}, allIn ids l = true ↔ ∀ b ∈ l, b ∈ ids
 | [] => by simp [allIn]
 | c :: r => by simp [allIn, memN_iff, allIn_iff (l := r)]
theorem nodupN_iff : ∀ {l : List Nat}, nodupN l = true → l.Nodup
 | [], _ => List.nodup_nil
 | c :: r, h => by
  simp only [nodupN, Bool.and_eq_true, Bool.not_eq_true'] at h
  refine List.nodup_cons.2 ⟨fun hm => ?_, nodupN_iff h.2⟩
  have := memN_iff.2 hm
  rw [h.1] at this
  cases this
theorem idxN_get {b : Nat} : ∀ {l : List Nat}, b ∈ l → l[idxN b l]? = some b
 | [], h => by simp at h
 | c :: r, h => by
  by_cases e : b = c
  ·subst e
   have : idxN b (b :: r) = 0 := by simp [idxN]
   rw [this]
   rfl
  ·have hr : b ∈ r := by simpa [e] using h
   have : idxN b (c :: r) = idxN b r + 1 := by simp [idxN, beq_ne e]
   rw [this, List.getElem?_cons_succ]
   exact idxN_get hr
theorem renL_get (m : Nat → Nat) : ∀ (ls : List LV) (i : Nat), (LV.renL m ls)[i]? = (ls[i]?).map (LV.ren m)
 | [], i => by simp [LV.renL]
 | l :: r, 0 => by simp [LV.renL]
 | l :: r, i + 1 => by simpa [LV.renL] using renL_get m r i
theorem renL_length (m : Nat → Nat) : ∀ (ls : List LV), (LV.renL m ls).length = ls.length
 | [] => rfl
 | l :: r => by simp [LV.renL, renL_length m r]
theorem refsL_mem : ∀ (ls : List LV) (i : Nat) (l : LV), ls[i]? = some l → ∀ b ∈ l.refs, b ∈ LV.refsL ls
 | [], i, l, h, _, _ => by simp at h
 | x :: r, 0, l, h, b, hb => by simp at h; subst h; simp [LV.refsL, hb]
 | x :: r, i + 1, l, h, b, hb => by simp [LV.refsL, refsL_mem r i l (by simpa using h) b hb]
def Renum (J J' : Inj) (m : Nat → Nat) (ids : List Nat) : Prop := ∀ b ∈ ids, J' (m b) = J b
theorem Rel.ren {J J' : Inj} {m : Nat → Nat} {ids : List Nat} (hr : Renum J J' m ids) {l : LV} {v : Value} (h : Rel J l v) (hi : ∀ b ∈ l.refs, b ∈ ids) : Rel J' (l.ren m) v := by
 induction h with
 | unk v => exact .unk v
 | i0 k n => exact .i0 k n
 | b0 b => exact .b0 b
 | s0 s => exact .s0 s
 | pn => exact .pn
 | p h hrow hs => exact .p (by rw [hr _ (hi _ (by simp [LV.refs]))]; exact h) hrow hs
 | sln => exact .sln
 | slrN b f => exact .slrN _ f
 | slrZ b f A => exact .slrZ _ f A
 | slr h hn hc hm => exact .slr (by rw [hr _ (hi _ (by simp [LV.refs]))]; exact h) hn hc hm
 | slfZ a b c d e A => exact .slfZ _ b c d e A
 | slf h hn h0 hc hm => exact .slf (by rw [hr _ (hi _ (by simp [LV.refs]))]; exact h) hn h0 hc hm
 | fn hk hl _ ih =>
  rename_i f k cap fst caps _
  refine .fn hk (by rw [renL_length]; exact hl) fun i l v h1 h2 => ?_
  rw [renL_get] at h1
  obtain ⟨l', h3, h4⟩ := Option.map_eq_some_iff.1 h1
  subst h4
  exact ih i l' v h3 h2 (fun b hb => hi b (by simpa [LV.refs] using refsL_mem cap i l' h3 b hb))
 | fnn => exact .fnn
theorem LV.ren_row (m : Nat → Nat) (l : LV) (r : Nat) : (l.ren m).row r = (l.row r).ren m := by cases l <;> rfl
theorem LV.row_refs (l : LV) (r : Nat) : ∀ b ∈ (l.row r).refs, b ∈ l.refs := by cases l <;> simp [LV.row, LV.refs]
theorem RelL.ren {J J' : Inj} {m : Nat → Nat} {ids : List Nat} (hr : Renum J J' m ids) : ∀ {ls : List LV} {vs : List Value}, RelL J ls vs → (∀ b ∈ LV.refsL ls, b ∈ ids) → RelL J' (LV.renL m ls) vs
 | [], [], _, _ => trivial
 | _ :: _, _ :: _, ⟨a, c⟩, h => ⟨a.ren hr (fun b hb => h b (by simp [LV.refsL, hb])), RelL.ren hr c (fun b hb => h b (by simp [LV.refsL, hb]))⟩
theorem Rel1.ren {J J' : Inj} {m : Nat → Nat} {ids : List Nat} (hr : Renum J J' m ids) {x : V1} {v : Value} (h : Rel1 J x v) (hi : ∀ b ∈ x.refs, b ∈ ids) : Rel1 J' (x.ren m) v := by
 cases x with
 | sc l => exact Rel.ren hr h hi
 | ag ls => obtain ⟨cs, hv, hrel⟩ := h; exact ⟨cs, hv, hrel.ren hr hi⟩
theorem Rel1s.ren {J J' : Inj} {m : Nat → Nat} {ids : List Nat} (hr : Renum J J' m ids) : ∀ {ls : List V1} {vs : List Value}, Rel1s J ls vs → (∀ b ∈ V1.refsL ls, b ∈ ids) → Rel1s J' (V1.renL m ls) vs
 | [], [], _, _ => trivial
 | _ :: _, _ :: _, ⟨a, c⟩, h => ⟨a.ren hr (fun b hb => h b (by simp [V1.refsL, hb])), Rel1s.ren hr c (fun b hb => h b (by simp [V1.refsL, hb]))⟩
theorem RelP.ren {J J' : Inj} {m : Nat → Nat} {ids : List Nat} (hr : Renum J J' m ids) {x : PV} {v : Value} (h : RelP J x v) (hi : ∀ b ∈ x.refs, b ∈ ids) : RelP J' (x.ren m) v := by
 cases x with
 | v x => exact Rel1.ren hr h hi
 | tup xs => obtain ⟨cs, hv, hrel⟩ := h; exact ⟨cs, hv, hrel.ren hr hi⟩
theorem look_selSl (sl : List (Nat × PV)) : ∀ (ks : List Nat) (t : Nat) (x : PV), lookN t (selSl ks sl) = some x → lookN t sl = some x
 | [], t, x, h => by simp [selSl, lookN] at h
 | k :: ks, t, x, h => by
  simp only [selSl] at h
  split at h
  ·rename_i y hy
   rw [lookN_cons] at h
   split at h
   ·rename_i e; subst e; cases h; exact hy
   ·exact look_selSl sl ks t x h
  ·exact look_selSl sl ks t x h
theorem look_slRen (m : Nat → Nat) : ∀ (sl : List (Nat × PV)) (t : Nat) (x : PV), lookN t (slRen m sl) = some x → ∃ y, lookN t sl = some y ∧ x = y.ren m
 | [], t, x, h => by simp [slRen, lookN] at h
 | (u, y) :: r, t, x, h => by
  simp only [slRen] at h
  rw [lookN_cons] at h
  rw [lookN_cons]
  split at h
  ·rename_i e; subst e; cases h; exact ⟨y, by simp, rfl⟩
  ·rename_i e
   rw [if_neg e]
   exact look_slRen m r t x h
theorem look_refs : ∀ (sl : List (Nat × PV)) (t : Nat) (x : PV), lookN t sl = some x → ∀ b ∈ x.refs, b ∈ slRefs sl
 | [], t, x, h, _, _ => by simp [lookN] at h
 | (u, y) :: r, t, x, h, b, hb => by
  rw [lookN_cons] at h
  split at h
  ·cases h; simp [slRefs, hb]
  ·simp [slRefs, look_refs r t x h b hb]
theorem RelF.canon {J J' : Inj} {m : Nat → Nat} {ids : List Nat} (hr : Renum J J' m ids) {n : Nat} {sl : List (Nat × PV)} {tmps : Array Value} (h : RelF J ⟨n, sl⟩ tmps) (ks : List Nat)
  (hi : ∀ b ∈ slRefs (selSl ks sl), b ∈ ids) : RelF J' ⟨n, slRen m (selSl ks sl)⟩ tmps := by
 refine ⟨h.1, fun t x hx => ?_⟩
 obtain ⟨y, hy, rfl⟩ := look_slRen m _ t x hx
 obtain ⟨v, hv, hrel⟩ := h.2 t y (look_selSl sl ks t y hy)
 exact ⟨v, hv, hrel.ren hr (fun b hb => hi b (look_refs _ t _ hy b hb))⟩
theorem RelLow.canon {J J' : Inj} {m : Nat → Nat} {ids : List Nat} (hr : Renum J J' m ids) : ∀ {kss : List (List Nat)} {fs fs' : List Fr} {ts : List (Array Value)}, RelLow J fs ts → selLow kss fs = some fs' →
  (∀ b ∈ lowRefs fs', b ∈ ids) → RelLow J' (lowRen m fs') ts
 | [], [], fs', [], _, h, _ => by simp [selLow] at h; subst h; trivial
 | [], _ :: _, _, _, _, h, _ => by simp [selLow] at h
 | _ :: _, [], _, _, _, h, _ => by simp [selLow] at h
 | ks :: kss, f :: fs, fs', t :: ts, ⟨a, c⟩, h, hi => by
  simp only [selLow] at h
  obtain ⟨q, h1, h2⟩ := Option.map_eq_some_iff.1 h
  subst h2
  exact ⟨a.canon hr ks (fun b hb => hi b (by simp [lowRefs, hb])), RelLow.canon hr c h1 (fun b hb => hi b (by simp [lowRefs, hb]))⟩
theorem blkAt_some {m : Nat → Nat} {mem : List PBlk} {ids : List Nat} {b : Nat} {pb' : PBlk} (h : blkAt m mem ids b = some pb') :
  ∃ pb, mem[b]? = some pb ∧ (∀ c ∈ LV.refsL pb.cols, c ∈ ids) ∧ pb' = { pb with cols := LV.renL m pb.cols } := by
 unfold blkAt at h
 split at h
 ·rename_i pb hb
  obtain ⟨h1, h2⟩ := cond_some h
  injection h2 with h2
  exact ⟨pb, hb, allIn_iff.1 h1, h2.symm⟩
 ·cases h
theorem canon_sound {base : Nat} {w0 : World} {J : Inj} {s s' : St} {tmps : Array Value} {lows : List (Array Value)} {w : World} {keep : List Nat} {kl : List (List Nat)}
  (hS : RelS base w0 J s tmps lows w) (h : canonSt keep kl s = some s') : ∃ J', RelS base w0 J' s' tmps lows w := by
 unfold canonSt at h
 obtain ⟨low, hlow, h⟩ := bind_some' h
 simp only at h
 generalize hids : closeN s.mem (s.mem.length + 1) 0 (addN (addN [] (slRefs (selSl keep s.fr.sl))) (lowRefs low)) = ids at h
 obtain ⟨h1, h2⟩ := cond_some h
 simp only [Bool.and_eq_true] at h1
 obtain ⟨⟨hnd, hin1⟩, hin2⟩ := h1
 have hnd := nodupN_iff hnd
 have hin1 := allIn_iff.1 hin1
 have hin2 := allIn_iff.1 hin2
 obtain ⟨mem, hmem, hs'⟩ := Option.map_eq_some_iff.1 h2
 subst hs'
 obtain ⟨hlen, hget⟩ := allSome_get hmem
 let J' : Inj := fun j => (ids[j]?).bind J
 have hren : Renum J J' (fun b => idxN b ids) ids := by
  intro b hb
  simp [J', idxN_get hb]
 refine ⟨J', hS.fr.canon hren keep hin1, RelLow.canon hren hS.low hlow hin2, ⟨?_, ?_⟩, hS.below, hS.base⟩
 ·intro j bb hj
  obtain ⟨b, hb, hJ⟩ := bind_some' hj
  obtain ⟨pb, hpb, hB⟩ := hS.mem.blk b bb hJ
  have hjl : j < mem.length := by
   rw [hlen]
   simpa using (List.getElem?_eq_some_iff.1 hb).1
  have hg := hget j mem[j] (by simp [hjl])
  simp only [List.getElem?_map, hb, Option.map_some, Option.some.injEq] at hg
  obtain ⟨pb0, hpb0, hrefs, he⟩ := blkAt_some hg
  rw [hpb] at hpb0
  cases hpb0
  refine ⟨mem[j], by simp [hjl], ?_⟩
  rw [he]
  refine ⟨?_, hB.flat, hB.there, ?_, ?_⟩
  ·rw [hB.esz]; exact (renL_length _ _).symm
  ·intro r hr c hc
   obtain ⟨x, hx, hrel⟩ := hB.cell r hr c hc
   refine ⟨x, hx, ?_⟩
   simp only
   have hlt : c < pb.cols.length := by rw [← hB.esz]; exact hc
   have e1 : (LV.renL (fun b => idxN b ids) pb.cols).getD c .unk = (pb.cols.getD c .unk).ren (fun b => idxN b ids) := by
    simp only [List.getD, renL_get]
    simp [hlt]
   rw [e1, LV.ren_row]
   refine hrel.ren hren fun b hb => hrefs b ?_
   refine refsL_mem pb.cols c (pb.cols.getD c .unk) (by simp [List.getD, hlt]) b (LV.row_refs _ r b hb)
  ·intro ho
   exact hB.own ho
 ·intro j j' bb bb' pb hp ho hj hj' hne
  obtain ⟨b, hb, hJ⟩ := bind_some' hj
  obtain ⟨b', hb', hJ'⟩ := bind_some' hj'
  have hg := hget j pb hp
  simp only [List.getElem?_map, hb, Option.map_some, Option.some.injEq] at hg
  obtain ⟨pb0, hpb0, _, he⟩ := blkAt_some hg
  refine hS.mem.apart b b' bb bb' pb0 hpb0 (by rw [he] at ho; exact ho) hJ hJ' ?_
  intro e
  subst e
  have hjl := (List.getElem?_eq_some_iff.1 hb).1
  have hjl' := (List.getElem?_eq_some_iff.1 hb').1
  have e1 := (List.getElem?_eq_some_iff.1 hb).2
  have e2 := (List.getElem?_eq_some_iff.1 hb').2
  have hpw := List.pairwise_iff_getElem.1 hnd
  rcases Nat.lt_trichotomy j j' with hlt | heq | hgt
  ·exact hpw j j' hjl hjl' hlt (e1.trans e2.symm)
  ·exact hne heq
  ·exact hpw j' j hjl' hjl hgt (e2.trans e1.symm)
inductive Cd where
 | i (k : IntKind) | b | s | ir (k : IntKind) | br | sr
 | slr0 (blk : Nat)
 | slr (blk : Nat)
 | slf (blk off esz cnt : Nat)
 | lit (l : LV)
 | unk
def Cd.cons : Cd → Type → Type
 | .i _, X => Int × X
 | .b, X => Bool × X
 | .s, X => ByteArray × X
 | .ir _, X => (Nat → Int) × X
 | .br, X => (Nat → Bool) × X
 | .sr, X => (Nat → ByteArray) × X
 | .slr0 _, X => Nat × X
 | .slr _, X => Nat × Nat × X
 | .slf .., X => Nat × Nat × X
 | .lit _, X => X
 | .unk, X => X
mutual
def LV.same : LV → LV → Bool
 | .p b r o [], .p b' r' o' [] => Nat.beq b b' && Nat.beq r r' && Nat.beq o o'
 | .pn, .pn => true
 | .sln, .sln => true
 | .fnn, .fnn => true
 | .fn f k c, .fn f' k' c' => Nat.beq f f' && Nat.beq k k' && LV.sameL c c'
 | _, _ => false
def LV.sameL : List LV → List LV → Bool
 | [], [] => true
 | l :: r, l' :: r' => l.same l' && LV.sameL r r'
 | _, _ => false
end
mutual
theorem LV.same_eq : ∀ {a b : LV}, a.same b = true → a = b
 | .p _ _ _ [], .p _ _ _ [], h => by
  simp only [LV.same, Bool.and_eq_true] at h
  rw [nat_beq h.1.1, nat_beq h.1.2, nat_beq h.2]
 | .pn, .pn, _ => rfl
 | .sln, .sln, _ => rfl
 | .fnn, .fnn, _ => rfl
 | .fn f k c, .fn f' k' c', h => by
  simp only [LV.same, Bool.and_eq_true] at h
  rw [nat_beq h.1.1, nat_beq h.1.2, LV.sameL_eq h.2]
theorem LV.sameL_eq : ∀ {a b : List LV}, LV.sameL a b = true → a = b
 | [], [], _ => rfl
 | l :: r, l' :: r', h => by
  simp only [LV.sameL, Bool.and_eq_true] at h
  rw [LV.same_eq h.1, LV.sameL_eq h.2]
end
def Cd.get (c : Cd) {X : Type} (l : LV) (x : X) : Option (c.cons X) :=
 match c, l with
 | .i k, .i0 k' n => bif decide (k = k') then some (n, x) else none
 | .b, .b0 n => some (n, x)
 | .s, .s0 n => some (n, x)
 | .ir k, .i1 k' f => bif decide (k = k') then some (f, x) else none
 | .br, .b1 f => some (f, x)
 | .sr, .s1 f => some (f, x)
 | .slr0 q, .slr q' f n => bif Nat.beq q q' && Nat.beq f 0 then some (n, x) else none
 | .slr q, .slr q' f n => bif Nat.beq q q' then some (f, n, x) else none
 | .slf q o e c, .slf q' o' e' c' f n => bif Nat.beq q q' && Nat.beq o o' && Nat.beq e e' && Nat.beq c c' then some (f, n, x) else none
 | .lit l, l' => bif l.same l' then some x else none
 | .unk, _ => some x
 | _, _ => none
def Cd.put : (c : Cd) → {X : Type} → c.cons X → LV × X
 | .i k, _, t => (.i0 k t.1, t.2)
 | .b, _, t => (.b0 t.1, t.2)
 | .s, _, t => (.s0 t.1, t.2)
 | .ir k, _, t => (.i1 k t.1, t.2)
 | .br, _, t => (.b1 t.1, t.2)
 | .sr, _, t => (.s1 t.1, t.2)
 | .slr0 q, _, t => (.slr q 0 t.1, t.2)
 | .slr q, _, t => (.slr q t.1 t.2.1, t.2.2)
 | .slf q o e c, _, t => (.slf q o e c t.1 t.2.1, t.2.2)
 | .lit l, _, t => (l, t)
 | .unk, _, t => (.unk, t)
theorem Cd.ok {c : Cd} {X : Type} {l : LV} {x : X} {t : c.cons X} (h : c.get l x = some t) : (c.put t).2 = x ∧ ((c.put t).1 = l ∨ (c.put t).1 = .unk) := by
 cases c <;> cases l <;> simp only [Cd.get, reduceCtorEq] at h
 all_goals first
  | (injection h with h; subst h; exact ⟨rfl, .inl rfl⟩)
  | (injection h with h; subst h; exact ⟨rfl, .inr rfl⟩)
  | (obtain ⟨h1, h2⟩ := cond_some h; injection h2 with h2; subst h2; first
    | exact ⟨rfl, .inl (by simp only [Cd.put]; rw [of_decide_eq_true h1])⟩
    | exact ⟨rfl, .inl (by simp only [Cd.put]; rw [nat_beq h1])⟩
    | exact ⟨rfl, .inl (LV.same_eq h1)⟩
    | (simp only [Bool.and_eq_true] at h1; exact ⟨rfl, .inl (by simp only [Cd.put]; rw [nat_beq h1.1, nat_beq h1.2])⟩)
    | (simp only [Bool.and_eq_true] at h1; exact ⟨rfl, .inl (by simp only [Cd.put]; rw [nat_beq h1.1.1.1, nat_beq h1.1.1.2, nat_beq h1.1.2, nat_beq h1.2])⟩))
  | skip
inductive Sh1 where
 | sc (c : Cd)
 | ag (cs : List Cd)
def cellsT : List Cd → Type → Type
 | [], X => X
 | c :: r, X => c.cons (cellsT r X)
def cellsGet : (cs : List Cd) → {X : Type} → List LV → X → Option (cellsT cs X)
 | [], _, [], x => some x
 | c :: r, _, l :: ls, x => (cellsGet r ls x).bind fun y => c.get l y
 | _, _, _, _ => none
def cellsPut : (cs : List Cd) → {X : Type} → cellsT cs X → List LV × X
 | [], _, x => ([], x)
 | c :: r, _, t => ((c.put t).1 :: (cellsPut r (c.put t).2).1, (cellsPut r (c.put t).2).2)
def Weak (a b : List LV) : Prop := a.length = b.length ∧ ∀ (i : Nat) (l : LV), a[i]? = some l → b[i]? = some l ∨ l = .unk
theorem Weak.cons {a b : List LV} {x y : LV} (h : Weak a b) (hx : x = y ∨ x = .unk) : Weak (x :: a) (y :: b) := by
 refine ⟨by simp [h.1], fun i l hl => ?_⟩
 cases i with
 | zero =>
  simp at hl
  subst hl
  rcases hx with rfl | rfl
  ·exact .inl rfl
  ·exact .inr rfl
 | succ i => simpa using h.2 i l (by simpa using hl)
theorem cellsGet_ok : ∀ {cs : List Cd} {X : Type} {ls : List LV} {x : X} {t : cellsT cs X}, cellsGet cs ls x = some t → (cellsPut cs t).2 = x ∧ Weak (cellsPut cs t).1 ls
 | [], X, [], x, t, h => by
  have h' : x = t := Option.some.inj h
  subst h'
  exact ⟨rfl, rfl, fun i l hl => by simp [cellsPut] at hl⟩
 | [], _, _ :: _, _, _, h => by simp [cellsGet] at h
 | _ :: _, _, [], _, _, h => by simp [cellsGet] at h
 | c :: r, X, l :: ls, x, t, h => by
  simp only [cellsGet] at h
  obtain ⟨y, h1, h2⟩ := bind_some' h
  obtain ⟨k1, k2⟩ := cellsGet_ok h1
  obtain ⟨m1, m2⟩ := Cd.ok h2
  simp only [cellsPut]
  rw [m1]
  exact ⟨k1, k2.cons m2⟩
def Sh1.cons : Sh1 → Type → Type
 | .sc c, X => c.cons X
 | .ag cs, X => cellsT cs X
def Sh1.get : (h : Sh1) → {X : Type} → PV → X → Option (h.cons X)
 | .sc c, _, .v (.sc l), x => c.get l x
 | .ag cs, _, .v (.ag ls), x => cellsGet cs ls x
 | _, _, _, _ => none
def Sh1.put : (h : Sh1) → {X : Type} → h.cons X → PV × X
 | .sc c, _, t => (.s (c.put t).1, (c.put t).2)
 | .ag cs, _, t => (.a (cellsPut cs t).1, (cellsPut cs t).2)
def slT : List (Nat × Sh1) → Type → Type
 | [], X => X
 | (_, h) :: r, X => h.cons (slT r X)
def slGet : (hs : List (Nat × Sh1)) → {X : Type} → List (Nat × PV) → X → Option (slT hs X)
 | [], _, [], x => some x
 | (t, h) :: r, _, (u, p) :: ps, x => bif Nat.beq t u then (slGet r ps x).bind fun y => h.get p y else none
 | _, _, _, _ => none
def slPut : (hs : List (Nat × Sh1)) → {X : Type} → slT hs X → List (Nat × PV) × X
 | [], _, x => ([], x)
 | (u, h) :: r, _, t => ((u, (h.put t).1) :: (slPut r (h.put t).2).1, (slPut r (h.put t).2).2)
def lowT : List (Nat × List (Nat × Sh1)) → Type → Type
 | [], X => X
 | (_, hs) :: r, X => slT hs (lowT r X)
def lowGet : (fs : List (Nat × List (Nat × Sh1))) → {X : Type} → List Fr → X → Option (lowT fs X)
 | [], _, [], x => some x
 | (n, hs) :: r, _, f :: ps, x => bif Nat.beq n f.n then (lowGet r ps x).bind fun y => slGet hs f.sl y else none
 | _, _, _, _ => none
def lowPut : (fs : List (Nat × List (Nat × Sh1))) → {X : Type} → lowT fs X → List Fr × X
 | [], _, x => ([], x)
 | (n, hs) :: r, _, t => (⟨n, (slPut hs t).1⟩ :: (lowPut r (slPut hs t).2).1, (lowPut r (slPut hs t).2).2)
def memT : List (Bool × Bool × List Cd) → Type → Type
 | [], X => X
 | (_, _, cs) :: r, X => cellsT cs (memT r X)
def memGet : (ms : List (Bool × Bool × List Cd)) → {X : Type} → List PBlk → X → Option (memT ms X)
 | [], _, [], x => some x
 | (o, rw, cs) :: r, _, pb :: ps, x => bif (!o || pb.own) && (rw == pb.rowsy) then (memGet r ps x).bind fun y => cellsGet cs pb.cols y else none
 | _, _, _, _ => none
def memPut : (ms : List (Bool × Bool × List Cd)) → {X : Type} → memT ms X → List PBlk × X
 | [], _, x => ([], x)
 | (o, rw, cs) :: r, _, t => (⟨o, rw, (cellsPut cs t).1⟩ :: (memPut r (cellsPut cs t).2).1, (memPut r (cellsPut cs t).2).2)
structure Sh where
 n : Nat
 sl : List (Nat × Sh1)
 low : List (Nat × List (Nat × Sh1))
 mem : List (Bool × Bool × List Cd)
def Sh.T (h : Sh) : Type := slT h.sl (lowT h.low (memT h.mem Unit))
def Sh.get (h : Sh) (s : St) : Option h.T :=
 bif Nat.beq h.n s.fr.n then (memGet h.mem s.mem ()).bind fun x => (lowGet h.low s.low x).bind fun y => slGet h.sl s.fr.sl y else none
def Sh.put (h : Sh) (t : h.T) : St :=
 { fr := ⟨h.n, (slPut h.sl t).1⟩, low := (lowPut h.low (slPut h.sl t).2).1, mem := (memPut h.mem (lowPut h.low (slPut h.sl t).2).2).1 }
def zeroCol : Cd → Option LV
 | .ir k => some (.i1 k fun _ => 0)
 | .br => some (.b1 fun _ => false)
 | .sr => some (.s1 fun _ => ⟨#[]⟩)
 | _ => none
def fixBlk (ms : List (Bool × Bool × List Cd)) (q : Nat) (mem : List PBlk) : LV × List PBlk :=
 match ms[q]? with
 | some (o, true, cds) => match allSome (cds.map zeroCol) with
  | some cols => (.slr mem.length 0 0, mem ++ [⟨o, true, cols⟩])
  | none => (.sln, mem)
 | _ => (.sln, mem)
def fixC (ms : List (Bool × Bool × List Cd)) (c : Cd) (l : LV) (mem : List PBlk) : LV × List PBlk :=
 match l with
 | .sln => match c with
  | .slr0 q => fixBlk ms q mem
  | .slr q => fixBlk ms q mem
  | _ => (l, mem)
 | _ => (l, mem)
def fixCs (ms : List (Bool × Bool × List Cd)) : List Cd → List LV → List PBlk → List LV × List PBlk
 | c :: cs, l :: ls, mem =>
  let a := fixC ms c l mem
  let b := fixCs ms cs ls a.2
  (a.1 :: b.1, b.2)
 | _, ls, mem => (ls, mem)
def fixP (ms : List (Bool × Bool × List Cd)) (h : Sh1) (x : PV) (mem : List PBlk) : PV × List PBlk :=
 match h, x with
 | .sc c, .v (.sc l) => let a := fixC ms c l mem; (.v (.sc a.1), a.2)
 | .ag cs, .v (.ag ls) => let a := fixCs ms cs ls mem; (.v (.ag a.1), a.2)
 | _, _ => (x, mem)
def fixSl (ms : List (Bool × Bool × List Cd)) : List (Nat × Sh1) → List (Nat × PV) → List PBlk → List (Nat × PV) × List PBlk
 | [], _, mem => ([], mem)
 | (t, h) :: hs, sl, mem => match lookN t sl with
  | some x =>
   let a := fixP ms h x mem
   let b := fixSl ms hs sl a.2
   ((t, a.1) :: b.1, b.2)
  | none => fixSl ms hs sl mem
def pairC (c : Cd) (l : LV) : List (Nat × Nat) :=
 match c, l with
 | .lit (.p q _ _ _), .p b _ _ _ => [(q, b)]
 | _, _ => []
def pairCs : List Cd → List LV → List (Nat × Nat)
 | c :: cs, l :: ls => pairC c l ++ pairCs cs ls
 | _, _ => []
def pairSl : List (Nat × Sh1) → List (Nat × PV) → List (Nat × Nat)
 | [], _ => []
 | (t, h) :: hs, sl => (match h, lookN t sl with
  | .sc c, some (.v (.sc l)) => pairC c l
  | .ag cs, some (.v (.ag ls)) => pairCs cs ls
  | _, _ => []) ++ pairSl hs sl
def isSlC : Cd → Bool
 | .slr0 _ => true
 | .slr _ => true
 | _ => false
def fixMem (ms : List (Bool × Bool × List Cd)) : Nat → List (Nat × Nat) → List PBlk → List PBlk
 | 0, _, mem => mem
 | _ + 1, [], mem => mem
 | n + 1, (q, b) :: r, mem => match ms[q]?, mem[b]? with
  | some (_, false, cds), some pb => bif pb.rowsy then fixMem ms n r mem else
    fixMem ms n (r ++ pairCs cds (fixCs ms cds pb.cols mem).1) ((fixCs ms cds pb.cols mem).2.set b { pb with cols := (fixCs ms cds pb.cols mem).1 })
  | _, _ => fixMem ms n r mem
def Sh.fix (h : Sh) (s : St) : St :=
 let a := fixSl h.mem h.sl s.fr.sl s.mem
 { fr := ⟨s.fr.n, a.1⟩, low := s.low, mem := bif h.mem.any (fun m => !m.2.1 && m.2.2.any isSlC) then fixMem h.mem 20 (pairSl h.sl a.1) a.2 else a.2 }
def Sh.take (h : Sh) (s : St) : Option h.T := (canonSt (h.sl.map (·.1)) (h.low.map fun f => f.2.map (·.1)) (h.fix s)).bind h.get
theorem fixBlk_ok {base : Nat} {J : Inj} {w : World} {ms : List (Bool × Bool × List Cd)} {q : Nat} {mem : List PBlk} {v : Value} (hr : Rel J .sln v) (hm : RelM base J mem w) :
  Rel J (fixBlk ms q mem).1 v ∧ RelM base J (fixBlk ms q mem).2 w := by
 unfold fixBlk
 split
 ·split
  ·cases hr
   exact ⟨.slrN _ _, hm.dead _⟩
  ·exact ⟨hr, hm⟩
 ·exact ⟨hr, hm⟩
theorem fixC_ok {base : Nat} {J : Inj} {w : World} {ms : List (Bool × Bool × List Cd)} {c : Cd} {l : LV} {mem : List PBlk} {v : Value} (hr : Rel J l v) (hm : RelM base J mem w) :
  Rel J (fixC ms c l mem).1 v ∧ RelM base J (fixC ms c l mem).2 w := by
 unfold fixC
 split
 ·split
  ·exact fixBlk_ok hr hm
  ·exact fixBlk_ok hr hm
  ·exact ⟨hr, hm⟩
 ·exact ⟨hr, hm⟩
theorem fixCs_ok {base : Nat} {J : Inj} {w : World} {ms : List (Bool × Bool × List Cd)} : ∀ {cs : List Cd} {ls : List LV} {mem : List PBlk} {vs : List Value}, RelL J ls vs → RelM base J mem w →
  RelL J (fixCs ms cs ls mem).1 vs ∧ RelM base J (fixCs ms cs ls mem).2 w
 | [], ls, mem, vs, hr, hm => by simp only [fixCs]; exact ⟨hr, hm⟩
 | _ :: _, [], mem, vs, hr, hm => by simp only [fixCs]; exact ⟨hr, hm⟩
 | c :: cs, l :: ls, mem, v :: vs, hr, hm => by
  obtain ⟨h1, h2⟩ := hr
  obtain ⟨k1, k2⟩ := fixC_ok (ms := ms) (c := c) h1 hm
  obtain ⟨m1, m2⟩ := fixCs_ok (cs := cs) h2 k2
  simp only [fixCs]
  exact ⟨⟨k1, m1⟩, m2⟩
 | _ :: _, _ :: _, _, [], hr, _ => by cases hr
theorem fixP_ok {base : Nat} {J : Inj} {w : World} {ms : List (Bool × Bool × List Cd)} {h : Sh1} {x : PV} {mem : List PBlk} {v : Value} (hr : RelP J x v) (hm : RelM base J mem w) :
  RelP J (fixP ms h x mem).1 v ∧ RelM base J (fixP ms h x mem).2 w := by
 unfold fixP
 split
 ·exact fixC_ok (J := J) hr hm
 ·obtain ⟨us, hv, hr⟩ := hr
  obtain ⟨k1, k2⟩ := fixCs_ok hr hm
  exact ⟨⟨us, hv, k1⟩, k2⟩
 ·exact ⟨hr, hm⟩
theorem fixSl_ok {base : Nat} {J : Inj} {w : World} {ms : List (Bool × Bool × List Cd)} {tmps : Array Value} {sl : List (Nat × PV)} (hf : ∀ t x, lookN t sl = some x → ∃ v, tmps[t]? = some v ∧ RelP J x v) :
  ∀ {hs : List (Nat × Sh1)} {mem : List PBlk}, RelM base J mem w → (∀ t x, lookN t (fixSl ms hs sl mem).1 = some x → ∃ v, tmps[t]? = some v ∧ RelP J x v) ∧ RelM base J (fixSl ms hs sl mem).2 w
 | [], mem, hm => by simp only [fixSl]; exact ⟨fun t x hx => by simp [lookN] at hx, hm⟩
 | (t, h) :: hs, mem, hm => by
  simp only [fixSl]
  split
  ·rename_i x hx
   obtain ⟨v, hv, hr⟩ := hf t x hx
   obtain ⟨k1, k2⟩ := fixP_ok (ms := ms) (h := h) hr hm
   obtain ⟨m1, m2⟩ := fixSl_ok hf (hs := hs) k2
   refine ⟨fun u y hy => ?_, m2⟩
   rw [lookN_cons] at hy
   split at hy
   ·rename_i e
    subst e
    cases hy
    exact ⟨v, hv, k1⟩
   ·exact m1 u y hy
  ·exact fixSl_ok hf hm
def UpC (l l' : LV) : Prop := l' = l ∨ (l = .sln ∧ ∃ b, l' = .slr b 0 0)
theorem fixC_up {ms : List (Bool × Bool × List Cd)} {c : Cd} {l : LV} {mem : List PBlk} : UpC l (fixC ms c l mem).1 ∧ ∃ new, (fixC ms c l mem).2 = mem ++ new := by
 have hb : ∀ q, UpC .sln (fixBlk ms q mem).1 ∧ ∃ new, (fixBlk ms q mem).2 = mem ++ new := by
  intro q
  unfold fixBlk
  split
  ·split
   ·exact ⟨.inr ⟨rfl, _, rfl⟩, _, rfl⟩
   ·exact ⟨.inl rfl, [], by simp⟩
  ·exact ⟨.inl rfl, [], by simp⟩
 unfold fixC
 split
 ·split
  ·exact hb _
  ·exact hb _
  ·exact ⟨.inl rfl, [], by simp⟩
 ·exact ⟨.inl rfl, [], by simp⟩
theorem fixCs_up {ms : List (Bool × Bool × List Cd)} : ∀ {cs : List Cd} {ls : List LV} {mem : List PBlk},
  (fixCs ms cs ls mem).1.length = ls.length ∧ (∀ i, UpC (ls.getD i .unk) ((fixCs ms cs ls mem).1.getD i .unk)) ∧ ∃ new, (fixCs ms cs ls mem).2 = mem ++ new
 | [], ls, mem => ⟨rfl, fun _ => .inl rfl, [], (List.append_nil _).symm⟩
 | _ :: _, [], mem => ⟨rfl, fun _ => .inl rfl, [], (List.append_nil _).symm⟩
 | c :: cs, l :: ls, mem => by
  obtain ⟨h1, new, h2⟩ := fixC_up (ms := ms) (c := c) (l := l) (mem := mem)
  obtain ⟨k1, k2, new', k3⟩ := fixCs_up (ms := ms) (cs := cs) (ls := ls) (mem := (fixC ms c l mem).2)
  simp only [fixCs]
  refine ⟨by simp [k1], fun i => ?_, new ++ new', by rw [k3, h2, List.append_assoc]⟩
  cases i with
  | zero => exact h1
  | succ i => simpa using k2 i
theorem RelM.deads {base : Nat} {J : Inj} {w : World} : ∀ (new : List PBlk) {mem : List PBlk}, RelM base J mem w → RelM base J (mem ++ new) w
 | [], mem, h => by simpa using h
 | pb :: r, mem, h => by
  have := RelM.deads r (h.dead pb)
  simpa using this
theorem UpC.rel {J : Inj} {l l' : LV} (h : UpC l l') {r : Nat} {v : Value} (hr : Rel J (l.row r) v) : Rel J (l'.row r) v := by
 rcases h with rfl | ⟨rfl, b, rfl⟩
 ·exact hr
 ·cases hr
  exact .slrN _ _
theorem RelM.recols {base : Nat} {J : Inj} {mem : List PBlk} {w : World} (hm : RelM base J mem w) {b : Nat} {pb : PBlk} (hb : mem[b]? = some pb) {cols : List LV} (hl : cols.length = pb.cols.length)
  (hu : ∀ i, UpC (pb.cols.getD i .unk) (cols.getD i .unk)) : RelM base J (mem.set b { pb with cols }) w := by
 have hlt : b < mem.length := (List.getElem?_eq_some_iff.1 hb).1
 refine ⟨fun c bb hc => ?_, fun c c' bb bb' q hp ho hc hc' hne => ?_⟩
 ·obtain ⟨pb', hp, hB⟩ := hm.blk c bb hc
  by_cases e : b = c
  ·subst e
   rw [hb] at hp
   cases hp
   exact ⟨{ pb with cols }, by rw [List.getElem?_set_self hlt], ⟨by rw [hB.esz]; exact hl.symm, hB.flat, hB.there, fun r hr k hk => by
    obtain ⟨x, h1, h2⟩ := hB.cell r hr k hk
    exact ⟨x, h1, (hu k).rel h2⟩, hB.own⟩⟩
  ·exact ⟨pb', by rw [List.getElem?_set_ne e]; exact hp, hB⟩
 ·by_cases e : b = c
  ·subst e
   rw [List.getElem?_set_self hlt] at hp
   cases hp
   exact hm.apart b c' bb bb' pb hb ho hc hc' hne
  ·rw [List.getElem?_set_ne e] at hp
   exact hm.apart c c' bb bb' q hp ho hc hc' hne
theorem fixMem_ok {base : Nat} {J : Inj} {w : World} {ms : List (Bool × Bool × List Cd)} : ∀ (n : Nat) (ps : List (Nat × Nat)) (mem : List PBlk), RelM base J mem w → RelM base J (fixMem ms n ps mem) w
 | 0, _, _, h => h
 | _ + 1, [], _, h => h
 | n + 1, (q, b) :: r, mem, h => by
  unfold fixMem
  split
  ·rename_i cds pb hq hb
   cases hr : pb.rowsy with
   | true => exact fixMem_ok n r mem h
   | false =>
    simp only [cond_false]
    obtain ⟨k1, k2, new, k3⟩ := fixCs_up (ms := ms) (cs := cds) (ls := pb.cols) (mem := mem)
    refine fixMem_ok n _ _ ?_
    have h2 : RelM base J (fixCs ms cds pb.cols mem).2 w := by rw [k3]; exact h.deads new
    have hlt : b < mem.length := (List.getElem?_eq_some_iff.1 hb).1
    have hx := h2.recols (b := b) (pb := pb) (by rw [k3, List.getElem?_append_left hlt]; exact hb) k1 k2
    rw [hr] at hx
    exact hx
  ·exact fixMem_ok n r mem h
theorem Sh.fix_ok {h : Sh} {s : St} {base : Nat} {w0 : World} {J : Inj} {tmps : Array Value} {lows : List (Array Value)} {w : World} (hS : RelS base w0 J s tmps lows w) : RelS base w0 J (h.fix s) tmps lows w := by
 obtain ⟨h1, h2⟩ := fixSl_ok (ms := h.mem) hS.fr.2 (hs := h.sl) hS.mem
 refine ⟨⟨hS.fr.1, h1⟩, hS.low, ?_, hS.below, hS.base⟩
 simp only [Sh.fix]
 cases h.mem.any (fun m => !m.2.1 && m.2.2.any isSlC) with
 | true => exact fixMem_ok 20 _ _ h2
 | false => exact h2
theorem Weak.rel {J : Inj} {a b : List LV} {vs : List Value} (h : Weak a b) (hr : RelL J b vs) : RelL J a vs := by
 refine RelL.of (by rw [h.1]; exact hr.length) fun i l v hl hv => ?_
 rcases h.2 i l hl with h' | rfl
 ·obtain ⟨u, hu, hrel⟩ := hr.get i l h'
  rw [hv] at hu
  cases hu
  exact hrel
 ·exact .unk _
theorem Sh1.ok {h : Sh1} {X : Type} {p : PV} {x : X} {t : h.cons X} (hg : h.get p x = some t) : (h.put t).2 = x ∧ ∀ J v, RelP J p v → RelP J (h.put t).1 v := by
 match h, p with
 | .sc c, .v (.sc l) =>
  obtain ⟨h1, h2⟩ := Cd.ok hg
  refine ⟨h1, fun J v hr => ?_⟩
  show Rel J (c.put t).1 v
  rcases h2 with e | e
  ·rw [e]; exact hr
  ·rw [e]; exact .unk _
 | .ag cs, .v (.ag ls) =>
  obtain ⟨h1, h2⟩ := cellsGet_ok hg
  refine ⟨h1, fun J v hr => ?_⟩
  obtain ⟨us, hv, hr⟩ := hr
  exact ⟨us, hv, h2.rel hr⟩
 | .sc _, .v (.ag _) => cases hg
 | .ag _, .v (.sc _) => cases hg
 | .sc _, .tup _ => cases hg
 | .ag _, .tup _ => cases hg
theorem slGet_ok : ∀ {hs : List (Nat × Sh1)} {X : Type} {sl : List (Nat × PV)} {x : X} {t : slT hs X}, slGet hs sl x = some t →
  (slPut hs t).2 = x ∧ ∀ (u : Nat) (p : PV), lookN u (slPut hs t).1 = some p → ∃ q, lookN u sl = some q ∧ ∀ J v, RelP J q v → RelP J p v
 | [], X, [], x, t, h => by
  have h' : x = t := Option.some.inj h
  subst h'
  exact ⟨rfl, fun u p hp => by simp [slPut, lookN] at hp⟩
 | [], _, _ :: _, _, _, h => by simp [slGet] at h
 | _ :: _, _, [], _, _, h => by simp [slGet] at h
 | (a, h) :: r, X, (b, p) :: ps, x, t, hg => by
  simp only [slGet] at hg
  obtain ⟨h0, hg2⟩ := cond_some hg
  clear hg
  have h0 := nat_beq h0
  subst h0
  obtain ⟨y, h1, h2⟩ := bind_some' hg2
  obtain ⟨k1, k2⟩ := slGet_ok h1
  obtain ⟨m1, m2⟩ := Sh1.ok h2
  simp only [slPut]
  rw [m1]
  refine ⟨k1, fun u q hq => ?_⟩
  rw [lookN_cons] at hq
  rw [lookN_cons]
  split at hq
  ·rename_i e
   subst e
   cases hq
   exact ⟨p, by simp, m2⟩
  ·rename_i e
   rw [if_neg e]
   exact k2 u q hq
theorem lowGet_ok : ∀ {fs : List (Nat × List (Nat × Sh1))} {X : Type} {low : List Fr} {x : X} {t : lowT fs X}, lowGet fs low x = some t →
  (lowPut fs t).2 = x ∧ ∀ J ts, RelLow J low ts → RelLow J (lowPut fs t).1 ts
 | [], X, [], x, t, h => by
  have h' : x = t := Option.some.inj h
  subst h'
  exact ⟨rfl, fun J ts hr => hr⟩
 | [], _, _ :: _, _, _, h => by simp [lowGet] at h
 | _ :: _, _, [], _, _, h => by simp [lowGet] at h
 | (n, hs) :: r, X, f :: ps, x, t, hg => by
  simp only [lowGet] at hg
  obtain ⟨h0, hg⟩ := cond_some hg
  have h0 := nat_beq h0
  obtain ⟨y, h1, h2⟩ := bind_some' hg
  obtain ⟨k1, k2⟩ := lowGet_ok h1
  obtain ⟨m1, m2⟩ := slGet_ok h2
  simp only [lowPut]
  rw [m1]
  refine ⟨k1, fun J ts hr => ?_⟩
  cases ts with
  | nil => cases hr
  | cons u us =>
   refine ⟨⟨by rw [hr.1.1, h0], fun v p hp => ?_⟩, k2 J us hr.2⟩
   obtain ⟨q, hq, hw⟩ := m2 v p hp
   obtain ⟨z, hz, hrel⟩ := hr.1.2 v q hq
   exact ⟨z, hz, hw J z hrel⟩
theorem memGet_ok : ∀ {ms : List (Bool × Bool × List Cd)} {X : Type} {mem : List PBlk} {x : X} {t : memT ms X}, memGet ms mem x = some t →
  (memPut ms t).2 = x ∧ (memPut ms t).1.length = mem.length ∧ ∀ (i : Nat) (pb : PBlk), (memPut ms t).1[i]? = some pb → ∃ pb', mem[i]? = some pb' ∧ (pb.own = true → pb'.own = true) ∧ pb.rowsy = pb'.rowsy ∧ Weak pb.cols pb'.cols
 | [], X, [], x, t, h => by
  have h' : x = t := Option.some.inj h
  subst h'
  exact ⟨rfl, rfl, fun i pb hp => by simp [memPut] at hp⟩
 | [], _, _ :: _, _, _, h => by simp [memGet] at h
 | _ :: _, _, [], _, _, h => by simp [memGet] at h
 | (o, rw', cs) :: r, X, pb :: ps, x, t, hg => by
  simp only [memGet] at hg
  obtain ⟨h0, hg⟩ := cond_some hg
  simp only [Bool.and_eq_true, Bool.or_eq_true, Bool.not_eq_true', beq_iff_eq] at h0
  obtain ⟨y, h1, h2⟩ := bind_some' hg
  obtain ⟨k1, k2, k3⟩ := memGet_ok h1
  obtain ⟨m1, m2⟩ := cellsGet_ok h2
  simp only [memPut]
  rw [m1]
  refine ⟨k1, by simp [k2], fun i pb' hp => ?_⟩
  cases i with
  | zero =>
   simp at hp
   subst hp
   refine ⟨pb, rfl, fun ho => ?_, h0.2, m2⟩
   rcases h0.1 with h | h
   ·simp only at ho; rw [h] at ho; cases ho
   ·exact h
  | succ i => simpa using k3 i pb' (by simpa using hp)
theorem Weak.row {J : Inj} {a b : List LV} (h : Weak a b) (c r : Nat) {x : Value} (hr : Rel J ((b.getD c .unk).row r) x) : Rel J ((a.getD c .unk).row r) x := by
 by_cases hc : c < a.length
 ·have ha : a[c]? = some a[c] := by simp [hc]
  rcases h.2 c a[c] ha with h' | h'
  ·have e1 : a.getD c .unk = a[c] := by simp [List.getD, hc]
   have e2 : b.getD c .unk = a[c] := by simp [List.getD, h']
   rw [e1]
   rw [e2] at hr
   exact hr
  ·have e1 : a.getD c .unk = .unk := by simp [List.getD, hc, h']
   rw [e1]
   exact .unk _
 ·have : a.getD c .unk = .unk := by simp [List.getD, hc]
  rw [this]
  exact .unk _
theorem Sh.get_ok {h : Sh} {s : St} {t : h.T} (hg : h.get s = some t) {base : Nat} {w0 : World} {J : Inj} {tmps : Array Value} {lows : List (Array Value)} {w : World} (hS : RelS base w0 J s tmps lows w) :
  RelS base w0 J (h.put t) tmps lows w := by
 unfold Sh.get at hg
 obtain ⟨h0, hg⟩ := cond_some hg
 have h0 := nat_beq h0
 obtain ⟨x, h1, hg⟩ := bind_some' hg
 obtain ⟨y, h2, h3⟩ := bind_some' hg
 obtain ⟨k1, k2, k3⟩ := memGet_ok h1
 obtain ⟨l1, l2⟩ := lowGet_ok h2
 obtain ⟨m1, m2⟩ := slGet_ok h3
 unfold Sh.put
 rw [m1, l1]
 refine ⟨⟨by rw [hS.fr.1, h0], fun u p hp => ?_⟩, l2 J lows hS.low, ⟨fun b bb hb => ?_, fun b b' bb bb' pb hp ho hb hb' hne => ?_⟩, hS.below, hS.base⟩
 ·obtain ⟨q, hq, hw⟩ := m2 u p hp
  obtain ⟨z, hz, hrel⟩ := hS.fr.2 u q hq
  exact ⟨z, hz, hw J z hrel⟩
 ·obtain ⟨pb', hpb', hB⟩ := hS.mem.blk b bb hb
  have hlt : b < (memPut h.mem x).1.length := by rw [k2]; exact (List.getElem?_eq_some_iff.1 hpb').1
  obtain ⟨pb2, e1, e2, e3, e4⟩ := k3 b (memPut h.mem x).1[b] (by simp [hlt])
  rw [hpb'] at e1
  cases e1
  refine ⟨(memPut h.mem x).1[b], by simp [hlt], ⟨?_, ?_, hB.there, ?_, ?_⟩⟩
  ·rw [e4.1]; exact hB.esz
  ·rw [e3]; exact hB.flat
  ·intro r hr c hc
   obtain ⟨z, hz, hrel⟩ := hB.cell r hr c hc
   exact ⟨z, hz, e4.row c r hrel⟩
  ·intro ho; exact hB.own (e2 ho)
 ·obtain ⟨pb2, e1, e2, _, _⟩ := k3 b pb hp
  exact hS.mem.apart b b' bb bb' pb2 e1 (e2 ho) hb hb' hne
theorem Sh.take_ok {h : Sh} {s : St} {t : h.T} (hg : h.take s = some t) {base : Nat} {w0 : World} {J : Inj} {tmps : Array Value} {lows : List (Array Value)} {w : World} (hS : RelS base w0 J s tmps lows w) :
  ∃ J', RelS base w0 J' (h.put t) tmps lows w := by
 unfold Sh.take at hg
 obtain ⟨s', h1, h2⟩ := bind_some' hg
 obtain ⟨J', hS'⟩ := canon_sound (Sh.fix_ok hS) h1
 exact ⟨J', Sh.get_ok h2 hS'⟩
end Go.Sy
