/- The evaluator. -/
import Derived.Test.YtjmbhhinmbgneaaGreatSzDraw2
namespace Go.Sy
open Go.RowKit (Below)
section float
variable {E : Env} {o : Oper} {s : St} {M : List PBlk} {pv : PV} {new : List PBlk} {ctx : List Nat}
theorem float_mem (hf : floats o = true) (hlen : ∀ (c : Nat) (pb : PBlk), s.mem[c]? = some pb → ∃ pb', M[c]? = some pb' ∧ pb'.cols.length = pb.cols.length)
  (hld : ∀ (t b r f : Nat) (y : List (Nat × Nat × Nat)), ldTmp o = some t → s.get t = .s (.p b r f y) → b < s.mem.length → M[b]? = s.mem[b]?)
  (hpar : ∀ (γ : Type) (hd' : Hd γ) (K' : PV → St → Option γ), exOp E hd' ctx o.op s K' = K' pv { s with mem := s.mem ++ new }) :
  new = [] ∧ ∀ (γ : Type) (hd' : Hd γ) (K' : PV → St → Option γ), exOp E hd' ctx o.op { s with mem := M } K' = K' pv { s with mem := M } := by
 have fin : (exOp E (fun _ _ _ _ _ => none) ctx o.op s (fun _ s2 => some s2) = exOp E (fun _ _ _ _ _ => none) ctx o.op s (fun _ _ => some s)) →
   (∀ (γ : Type) (hd' : Hd γ) (K' : PV → St → Option γ), exOp E hd' ctx o.op { s with mem := M } K' = exOp E hd' ctx o.op s (fun v _ => K' v { s with mem := M })) →
   new = [] ∧ ∀ (γ : Type) (hd' : Hd γ) (K' : PV → St → Option γ), exOp E hd' ctx o.op { s with mem := M } K' = K' pv { s with mem := M } := by
  intro h1 h2
  rw [hpar, hpar] at h1
  refine ⟨?_, fun γ hd' K' => by rw [h2, hpar]⟩
  injection h1 with h1
  have h3 : (s.mem ++ new) = s.mem := congrArg St.mem h1
  exact List.append_right_eq_self.1 h3
 have hne := hpar (PV × St) (fun _ _ _ _ _ => none) (fun v s => some (v, s))
 cases hop : o.op <;> simp only [floats, hop, Bool.false_eq_true] at hf <;> simp only [hop] at fin hne hpar
 case move x => exact fin rfl (fun _ _ _ => rfl)
 case assign x => exact fin rfl (fun _ _ _ => rfl)
 case extract x i => exact fin (by simp only [exOp]) (fun _ _ _ => rfl)
 case fieldAddr t x f => exact fin (by simp only [exOp]) (fun _ _ _ => rfl)
 case field t x f => exact fin (by simp only [exOp]) (fun _ _ _ => rfl)
 case nilCheck x => exact fin (by simp only [exOp]) (fun _ _ _ => rfl)
 case binOp op t x y k => exact fin (by simp only [exOp]) (fun _ _ _ => rfl)
 case indexAddr t x i =>
  refine fin (by simp only [exOp]) (fun γ hd' K' => ?_)
  have e1 : ∀ y, St.eval { s with mem := M } y = s.eval y := fun _ => rfl
  simp only [exOp, e1] at hne ⊢
  split <;> (try rfl)
  rename_i i0 hi
  simp only [hi] at hne
  split <;> (try rfl)
  rename_i esz _ _ _ b frm len hk hx
  simp only [hk, hx] at hne
  cases hb : s.mem[b]? with
  | none => rw [hb] at hne; cases hne
  | some pb =>
   obtain ⟨pb', h1, h2⟩ := hlen b pb hb
   rw [h1]
   simp only [Option.bind_some, h2]
 case load t x =>
  refine fin (by simp only [exOp]) (fun γ hd' K' => ?_)
  cases x with
  | tmp q =>
   have e1 : ∀ y, St.eval { s with mem := M } y = s.eval y := fun _ => rfl
   simp only [exOp, e1] at hne ⊢
   split <;> (try rfl)
   rename_i blk row off sym hx
   simp only [hx] at hne
   cases hb : s.mem[blk]? with
   | none => rw [hb] at hne; cases hne
   | some pb =>
    have := hld q blk row off sym (by simp only [ldTmp, hop]) hx (List.getElem?_eq_some_iff.1 hb).1
    rw [this, hb]
  | const v => simp at hf
  | func f => simp at hf
  | global g => simp at hf
 case call c =>
  cases hc : c.callee with
  | builtin bn =>
   cases bn <;> simp only [hc, Bool.false_eq_true] at hf
   exact fin (by simp only [exOp, hc]) (fun _ _ _ => by simp only [exOp, hc]; rfl)
  | invoke r m => simp only [hc, Bool.false_eq_true] at hf
  | value y => simp only [hc, Bool.false_eq_true] at hf
end float
theorem foldl_len {α : Type} (f : List LV → α → Option (List LV)) (n : Nat) (hf : ∀ a x b, a.length = n → f a x = some b → b.length = n) :
  ∀ (l : List α) (acc : Option (List LV)) (r : List LV), (∀ a, acc = some a → a.length = n) → l.foldl (fun acc x => acc.bind fun a => f a x) acc = some r → r.length = n
 | [], acc, r, ha, h => ha r h
 | x :: l, acc, r, ha, h => by
  refine foldl_len f n hf l _ r ?_ h
  intro a h1
  obtain ⟨a0, h2, h3⟩ := bind_some' h1
  exact hf a0 x a (ha a0 h2) h3
theorem wrCell_len {pb : PBlk} {r off : Nat} {sym : List (Nat × Nat × Nat)} {x : LV} {cols : List LV} (h : wrCell pb r off sym x = some cols) : cols.length = pb.cols.length := by
 unfold wrCell at h
 split at h
 ·obtain ⟨_, h⟩ := cond_some h
  rw [Option.map_eq_some_iff] at h
  obtain ⟨y, _, rfl⟩ := h
  simp
 ·rename_i i s c
  cases hb : (pb.rowsy || Nat.beq s 0) with
  | true => rw [hb] at h; cases h
  | false =>
   rw [hb] at h
   refine foldl_len _ pb.cols.length (fun a j b h1 h2 => ?_) _ _ _ (fun a h1 => by injection h1 with h1; rw [← h1]) h
   obtain ⟨_, h2⟩ := cond_some h2
   rw [Option.map_eq_some_iff] at h2
   obtain ⟨y, _, rfl⟩ := h2
   simpa using h1
 ·cases h
theorem wrCells_len {r : Nat} {sym : List (Nat × Nat × Nat)} : ∀ (ls : List LV) (pb pb' : PBlk) (off : Nat), wrCells pb r off sym ls = some pb' → pb'.cols.length = pb.cols.length
 | [], pb, pb', off, h => by injection h with h; rw [h]
 | x :: ls, pb, pb', off, h => by
  unfold wrCells at h
  obtain ⟨cols, h1, h2⟩ := bind_some' h
  rw [wrCells_len ls _ _ _ h2]
  exact wrCell_len h1
structure Wrote (s : St) (t : Nat) (m' : List PBlk) : Prop where
 len : m'.length = s.mem.length
 here : ∃ b r f y, s.get t = .s (.p b r f y) ∧ ∀ c, c ≠ b → m'[c]? = s.mem[c]?
 cols : ∀ (c : Nat) (pb : PBlk), s.mem[c]? = some pb → ∃ pb', m'[c]? = some pb' ∧ pb'.cols.length = pb.cols.length
section write
variable {β : Type} {P : Program} {E : Env} {hd : Hd β} {ctx : List Nat} {x : β} {base : Nat} {w : World} {J : Inj} {o : Oper} {s : St} {K : PV → St → Option β} {a : Act}
theorem store_par {t : Nat} (hst : stTmp o = some t) (h : exOp E hd ctx o.op s K = some x) :
  ∃ m', Wrote s t m' ∧ K (.s .unk) { s with mem := m' } = some x ∧ ∀ (γ : Type) (hd' : Hd γ) (K' : PV → St → Option γ), exOp E hd' ctx o.op s K' = K' (.s .unk) { s with mem := m' } := by
 unfold stTmp at hst
 split at hst
 ·rename_i ty t' z hg hop
  injection hst with hst
  subst hst
  rw [hop] at h ⊢
  simp only [exOp] at h ⊢
  split at h
  ·rename_i blk row off sym he
   obtain ⟨v1, h1, h⟩ := bind_some' h
   obtain ⟨ls, h2, h⟩ := bind_some' h
   obtain ⟨pb, h3, h⟩ := bind_some' h
   obtain ⟨h4, h⟩ := cond_some h
   obtain ⟨pb', h5, h6⟩ := bind_some' h
   refine ⟨_, ⟨by simp, ⟨blk, row, off, sym, he, fun c hc => by simp [List.getElem?_set, Ne.symm hc]⟩, fun c p hp => ?_⟩, h6, fun γ hd' K' => ?_⟩
   ·have hlt : blk < s.mem.length := (List.getElem?_eq_some_iff.1 h3).1
    by_cases e : c = blk
    ·subst e
     rw [h3] at hp
     injection hp with hp
     subst hp
     exact ⟨pb', by simp [hlt], wrCells_len _ _ _ _ h5⟩
    ·exact ⟨p, by simp [List.getElem?_set, Ne.symm e, hp], rfl⟩
   ·simp only [he, h1, h2, h3, h4, h5, Option.bind_some, cond_true]
  ·cases h
 ·cases hst
theorem store_run (hT : EnvT P E) {t : Nat} (hst : stTmp o = some t) {J : Inj} (hev : ∀ y ∈ o.op.operands, RelP J (s.eval y) (a.eval y)) (hm : RelM base J s.mem w)
  {m' : List PBlk} (h : ∀ (γ : Type) (hd' : Hd γ) (K' : PV → St → Option γ), exOp E hd' ctx o.op s K' = K' (.s .unk) { s with mem := m' }) :
  ∃ w', (execOp a.eval o).run P w = .ok .skip w' ∧ RelM base J m' w' ∧ (∀ w0, Below base w0 w → Below base w0 w') ∧ w'.heap.size = w.heap.size := by
 unfold stTmp at hst
 split at hst
 ·rename_i ty t' z hg hop
  have h := h St (fun _ _ _ _ _ => none) (fun _ s' => some s')
  rw [hop] at h hev
  simp only [exOp] at h
  split at h
  ·rename_i blk row off sym he
   obtain ⟨v1, h1, h⟩ := bind_some' h
   obtain ⟨ls, h2, h⟩ := bind_some' h
   obtain ⟨pb, h3, h⟩ := bind_some' h
   obtain ⟨h4, h⟩ := cond_some h
   obtain ⟨pb', h5, h6⟩ := bind_some' h
   injection h6 with h6
   have h6 : s.mem.set blk pb' = m' := congrArg St.mem h6
   simp only [Bool.and_eq_true] at h4
   have hlen := nat_beq h4.1.2
   have hy := hev (.tmp t') (by simp [Op.operands])
   rw [he] at hy
   generalize hcy : a.eval (.tmp t') = vy at hy
   cases hy with
   | p hJ hr hs =>
    rename_i bb
    have hz := hev z (by simp [Op.operands])
    cases hez : s.eval z with
    | tup _ => rw [hez] at h1; cases h1
    | v u =>
     rw [hez] at h1 hz
     simp only [PV.one, Option.some.injEq] at h1
     subst h1
     have hcells := Rel1.cells hz h2
     have hones := Rel1.oneCells hz h2
     obtain ⟨pb0, hpb0, hB⟩ := hm.blk blk bb hJ
     rw [h3] at hpb0
     cases hpb0
     obtain ⟨hbase, hfz, _, _⟩ := hB.own h4.1.1
     obtain ⟨k1, k2⟩ := wrCells_rel hJ hr hs ls (a.eval z).cells.toList s.mem w pb pb' off hm h3 h4.1.1 hcells h5
     obtain ⟨⟨i, hi, hsz, _⟩, _⟩ := hT.ti ty h4.2
     have hsize : (a.eval z).cells.size = i.size := by
      have := hcells.length
      simp only [Array.length_toList] at this
      omega
     refine ⟨w.setCells bb.B (bb.o + row * bb.esz + off + symOff sym) (a.eval z).cells.toList, ?_, by rw [← h6]; exact k1, fun w0 hb => below_setCells _ hbase _ _ _ hb, by rw [size_setCells]⟩
     have := run_storeCells_cells (P := P) bb.B (bb.o + row * bb.esz + off + symOff sym) (a.eval z).cells.toList 0 w (fun j hj => by simpa using k2 j hj) (fun j _ => hfz _) hones
     simp only [Nat.add_zero] at this
     simp only [execOp, hop, hcy, Instr.storeAt, Instr.sureAddr, storeVar, Sem.run_bind, Sem.run_pure, Result.andThen_ok, run_sizeOf hi, Sem.run_ite, if_neg (show ¬ (a.eval z).cells.size ≠ i.size by simp [hsize]), this]
  ·cases h
 ·cases hst
end write
structure DidM (E : Env) (l : List Oper) (o : Oper) (s : St) (pv : PV) (ex : Bool) (s' : St) : Prop where
 guard : match o.guard with
  | none => ex = true
  | some (g, want) => ∃ t, (l[g]?).bind (·.dst) = some t ∧ ((∃ b, s.get t = .s (.b0 b) ∧ ex = (b == want)) ∨ (s.get t = .tup [] ∧ ex = false))
 run : ex = true → ∃ s1 ctx, SameSt s s1 ∧
  ((stTmp o = none ∧ quietOp E o = true ∧ ∃ new, s'.mem = s.mem ++ new ∧ ∀ (γ : Type) (hd' : Hd γ) (K' : PV → St → Option γ), exOp E hd' ctx o.op s1 K' = K' pv { s1 with mem := s1.mem ++ new }) ∨
   (∃ t m', stTmp o = some t ∧ Wrote s t m' ∧ s'.mem = m' ∧ pv = .s .unk ∧ ∀ (γ : Type) (hd' : Hd γ) (K' : PV → St → Option γ), exOp E hd' ctx o.op s1 K' = K' (.s .unk) { s1 with mem := m' }))
 pass : ex = false → stTmp o = none ∧ pv = .tup [] ∧ s'.mem = s.mem
 get : ∀ t, s'.get t = if o.dst = some t then pv else s.get t
 n : s'.fr.n = s.fr.n
 low : s'.low = s.low
 lt : ∀ d, o.dst = some d → d < s.fr.n
 keys : ∀ t y, lookN t s'.fr.sl = some y → t < s.fr.n ∨ ∃ z, lookN t s.fr.sl = some z
theorem Wrote.same {s s1 : St} {t : Nat} {m' : List PBlk} (h : Wrote s1 t m') (hs : SameSt s s1) : Wrote s t m' := by
 obtain ⟨h1, ⟨b, r, f, y, h2, h3⟩, h4⟩ := h
 rw [hs.mem] at h1 h3 h4
 rw [hs.get] at h2
 exact ⟨h1, ⟨b, r, f, y, h2, h3⟩, h4⟩
section trace
variable {β : Type} {E : Env} {hd : Hd β} {ctx : List Nat} {K : St → Option β} {x : β}
theorem trace_mix (hF : ∀ f fo, lookFO f E.fns = some fo → FOpar fo) {l : List Oper} : ∀ (rest : List Oper) (i : Nat) (s : St), rest.all (fun o => quietOp E o || (stTmp o).isSome) = true → exOps E hd ctx l i rest s K = some x →
  ∃ (tr : Nat → St) (pv : Nat → PV) (ex : Nat → Bool), tr 0 = s ∧ K (tr rest.length) = some x ∧ ∀ (j : Nat) (o : Oper), rest[j]? = some o → DidM E l o (tr j) (pv j) (ex j) (tr (j + 1))
 | [], i, s, _, h => ⟨fun _ => s, fun _ => default, fun _ => true, rfl, h, fun j o hj => by simp at hj⟩
 | o :: rest, i, s, hq, h => by
  simp only [List.all_cons, Bool.and_eq_true] at hq
  have hgo : ∀ s1, SameSt s s1 → (exOp E hd (i :: ctx) o.op s1 fun v s' => (s'.put o.dst v).bind fun s'' => exOps E hd ctx l (i + 1) rest s'' K) = some x →
    (match o.guard with | none => True | some (g, want) => ∃ t, (l[g]?).bind (·.dst) = some t ∧ ((∃ b, s.get t = .s (.b0 b) ∧ true = (b == want)) ∨ (s.get t = .tup [] ∧ true = false))) →
    ∃ pv s'', DidM E l o s pv true s'' ∧ exOps E hd ctx l (i + 1) rest s'' K = some x := by
   intro s1 hs h1 hg
   cases hst : stTmp o with
   | none =>
    have hqo : quietOp E o = true := by have := hq.1; rw [hst] at this; simpa using this
    obtain ⟨pv, new, h2, h3⟩ := exOp_par hqo hF h1
    obtain ⟨s'', h4, h5⟩ := bind_some' h2
    obtain ⟨p1, p2, p3, p4, p5⟩ := put_get h4
    refine ⟨pv, s'', ⟨?_, fun _ => ⟨s1, i :: ctx, hs, .inl ⟨hst, hqo, new, by rw [p4]; simp [hs.mem], h3⟩⟩, (fun e => by cases e), fun t => ?_, by rw [p2]; exact hs.n, by rw [p3]; exact hs.low, fun d hd' => by rw [← hs.n]; exact p5 d hd', fun t y hy => ?_⟩, h5⟩
    ·cases hgd : o.guard with
     | none => rfl
     | some g => rw [hgd] at hg; exact hg
    ·rw [p1 t]
     split
     ·rfl
     ·exact hs.get t
    ·rcases put_keys h4 t y hy with h | ⟨z, hz⟩
     ·exact .inl (by rw [← hs.n]; exact h)
     ·exact hs.keys t z hz
   | some tq =>
    obtain ⟨m', hW, h2, h3⟩ := store_par hst h1
    obtain ⟨s'', h4, h5⟩ := bind_some' h2
    obtain ⟨p1, p2, p3, p4, p5⟩ := put_get h4
    refine ⟨_, s'', ⟨?_, fun _ => ⟨s1, i :: ctx, hs, .inr ⟨tq, m', hst, hW.same hs, by rw [p4], rfl, h3⟩⟩, (fun e => by cases e), fun t => ?_, by rw [p2]; exact hs.n, by rw [p3]; exact hs.low, fun d hd' => by rw [← hs.n]; exact p5 d hd', fun t y hy => ?_⟩, h5⟩
    ·cases hgd : o.guard with
     | none => rfl
     | some g => rw [hgd] at hg; exact hg
    ·rw [p1 t]
     split
     ·rfl
     ·exact hs.get t
    ·rcases put_keys h4 t y hy with h | ⟨z, hz⟩
     ·exact .inl (by rw [← hs.n]; exact h)
     ·exact hs.keys t z hz
  have hpass : ∀ s1, SameSt s s1 → ((s1.put o.dst (.tup [])).bind fun s'' => exOps E hd ctx l (i + 1) rest s'' K) = some x →
    (∃ g want t, o.guard = some (g, want) ∧ (l[g]?).bind (·.dst) = some t ∧ ((∃ b, s.get t = .s (.b0 b) ∧ false = (b == want)) ∨ (s.get t = .tup [] ∧ false = false))) →
    ∃ pv s'', DidM E l o s pv false s'' ∧ exOps E hd ctx l (i + 1) rest s'' K = some x := by
   intro s1 hs h1 hg
   obtain ⟨s'', h4, h5⟩ := bind_some' h1
   obtain ⟨p1, p2, p3, p4, p5⟩ := put_get h4
   refine ⟨.tup [], s'', ⟨?_, (fun e => by cases e), fun _ => ⟨by obtain ⟨g, want, t, h6, _⟩ := hg; unfold stTmp; rw [h6], rfl, by rw [p4]; exact hs.mem⟩, fun t => ?_, by rw [p2]; exact hs.n, by rw [p3]; exact hs.low, fun d hd' => by rw [← hs.n]; exact p5 d hd', fun t y hy => ?_⟩, h5⟩
   ·obtain ⟨g, want, t, h6, h7⟩ := hg
    rw [h6]
    exact ⟨t, h7⟩
   ·rw [p1 t]
    split
    ·rfl
    ·exact hs.get t
   ·rcases put_keys h4 t y hy with h | ⟨z, hz⟩
    ·exact .inl (by rw [← hs.n]; exact h)
    ·exact hs.keys t z hz
  have hone : ∃ pv ex s'', DidM E l o s pv ex s'' ∧ exOps E hd ctx l (i + 1) rest s'' K = some x := by
   simp only [exOps] at h
   split at h
   ·rename_i hg
    obtain ⟨pv, s'', h1, h2⟩ := hgo s ⟨fun _ => rfl, rfl, rfl, rfl, fun t y hy => .inr ⟨y, hy⟩⟩ h (by rw [hg]; trivial)
    exact ⟨pv, true, s'', h1, h2⟩
   ·rename_i g want hg
    split at h
    ·rename_i t ht
     split at h
     ·rename_i b hb
      cases b with
      | true =>
       simp only [cond_true] at h
       obtain ⟨s1, h1, h2⟩ := bind_some' h
       have hs := reput_same hb h1
       cases want with
       | true =>
        obtain ⟨pv, s'', h3, h4⟩ := hgo s1 hs h2 (by rw [hg]; exact ⟨t, ht, .inl ⟨true, hb, rfl⟩⟩)
        exact ⟨pv, true, s'', h3, h4⟩
       | false =>
        obtain ⟨pv, s'', h3, h4⟩ := hpass s1 hs h2 ⟨g, false, t, hg, ht, .inl ⟨true, hb, rfl⟩⟩
        exact ⟨pv, false, s'', h3, h4⟩
      | false =>
       simp only [cond_false] at h
       obtain ⟨s1, h1, h2⟩ := bind_some' h
       have hs := reput_same hb h1
       cases want with
       | true =>
        obtain ⟨pv, s'', h3, h4⟩ := hpass s1 hs h2 ⟨g, true, t, hg, ht, .inl ⟨false, hb, rfl⟩⟩
        exact ⟨pv, false, s'', h3, h4⟩
       | false =>
        obtain ⟨pv, s'', h3, h4⟩ := hgo s1 hs h2 (by rw [hg]; exact ⟨t, ht, .inl ⟨false, hb, rfl⟩⟩)
        exact ⟨pv, true, s'', h3, h4⟩
     ·rename_i hb
      obtain ⟨pv, s'', h3, h4⟩ := hpass s ⟨fun _ => rfl, rfl, rfl, rfl, fun t y hy => .inr ⟨y, hy⟩⟩ h ⟨g, want, t, hg, ht, .inr ⟨hb, rfl⟩⟩
      exact ⟨pv, false, s'', h3, h4⟩
     ·cases h
    ·cases h
  obtain ⟨pv0, ex0, s'', h1, h2⟩ := hone
  obtain ⟨tr, pv, ex, k1, k2, k3⟩ := trace_mix hF rest (i + 1) s'' hq.2 h2
  refine ⟨fun j => if j = 0 then s else tr (j - 1), fun j => if j = 0 then pv0 else pv (j - 1), fun j => if j = 0 then ex0 else ex (j - 1), rfl, by simpa using k2, fun j o' hj => ?_⟩
  cases j with
  | zero =>
   simp at hj
   subst hj
   simpa [k1] using h1
  | succ j =>
   have := k3 j o' (by simpa using hj)
   simpa using this
end trace
section
variable {E : Env} {ops : Array Oper} {tr : Nat → St} {pv : Nat → PV} {ex : Nat → Bool}
def TrM (E : Env) (ops : Array Oper) (tr : Nat → St) (pv : Nat → PV) (ex : Nat → Bool) : Prop :=
 ∀ (j : Nat) (o : Oper), ops.toList[j]? = some o → DidM E ops.toList o (tr j) (pv j) (ex j) (tr (j + 1))
theorem DidM.len {l : List Oper} {o : Oper} {s s' : St} {p : PV} {e : Bool} (h : DidM E l o s p e s') : s.mem.length ≤ s'.mem.length := by
 cases e with
 | false => rw [(h.pass rfl).2.2]; exact Nat.le_refl _
 | true =>
  obtain ⟨s1, ctx, _, h1 | ⟨t, m', _, hW, hm, _⟩⟩ := h.run rfl
  ·obtain ⟨_, _, new, hm, _⟩ := h1; rw [hm]; simp
  ·rw [hm, hW.len]; exact Nat.le_refl _
theorem trm_le (h : TrM E ops tr pv ex) : ∀ {j k : Nat}, j ≤ k → k ≤ ops.toList.length → (tr j).mem.length ≤ (tr k).mem.length := by
 intro j k hjk hk
 obtain ⟨d, rfl⟩ : ∃ d, k = j + d := ⟨k - j, by omega⟩
 induction d with
 | zero => exact Nat.le_refl _
 | succ d ih =>
  have hD := h (j + d) ops.toList[j + d] (by simp)
  exact Nat.le_trans (ih (by omega) (by omega)) hD.len
theorem trm_pre (h : TrM E ops tr pv ex) : ∀ {j k : Nat}, j ≤ k → k ≤ ops.toList.length → (∀ i o, j ≤ i → i < k → ops.toList[i]? = some o → stTmp o = none) →
  ∀ {b : Nat}, b < (tr j).mem.length → (tr k).mem[b]? = (tr j).mem[b]? := by
 intro j k hjk hk hn b hb
 obtain ⟨d, rfl⟩ : ∃ d, k = j + d := ⟨k - j, by omega⟩
 induction d with
 | zero => rfl
 | succ d ih =>
  have hD := h (j + d) ops.toList[j + d] (by simp)
  have ih := ih (by omega) (by omega) (fun i o h1 h2 => hn i o h1 (by omega))
  have hl := trm_le h (Nat.le_add_right j d) (by omega)
  rw [← ih]
  cases he : ex (j + d) with
  | false => rw [show j + (d + 1) = j + d + 1 by omega, (hD.pass he).2.2]
  | true =>
   obtain ⟨s1, ctx, _, h1 | ⟨t, m', hst, _⟩⟩ := hD.run he
   ·obtain ⟨_, _, new, hm, _⟩ := h1
    rw [show j + (d + 1) = j + d + 1 by omega, hm, List.getElem?_append_left (by omega)]
   ·rw [hn (j + d) ops.toList[j + d] (by omega) (by omega) (by simp)] at hst; cases hst
theorem trm_cols (h : TrM E ops tr pv ex) : ∀ {j k : Nat}, j ≤ k → k ≤ ops.toList.length → ∀ (c : Nat) (pb : PBlk), (tr j).mem[c]? = some pb → ∃ pb', (tr k).mem[c]? = some pb' ∧ pb'.cols.length = pb.cols.length := by
 intro j k hjk hk c pb hp
 obtain ⟨d, rfl⟩ : ∃ d, k = j + d := ⟨k - j, by omega⟩
 induction d with
 | zero => exact ⟨pb, hp, rfl⟩
 | succ d ih =>
  have hD := h (j + d) ops.toList[j + d] (by simp)
  obtain ⟨pb1, h1, h2⟩ := ih (by omega) (by omega)
  rw [show j + (d + 1) = j + d + 1 by omega]
  cases he : ex (j + d) with
  | false => rw [(hD.pass he).2.2]; exact ⟨pb1, h1, h2⟩
  | true =>
   obtain ⟨s1, ctx, _, h3 | ⟨t, m', hst, hW, hm, _⟩⟩ := hD.run he
   ·obtain ⟨_, _, new, hm, _⟩ := h3
    rw [hm]
    exact ⟨pb1, by rw [List.getElem?_append_left (List.getElem?_eq_some_iff.1 h1).1]; exact h1, h2⟩
   ·rw [hm]
    obtain ⟨pb', h3, h4⟩ := hW.cols c pb1 h1
    exact ⟨pb', h3, h4.trans h2⟩
theorem trm_apart (h : TrM E ops tr pv ex) : ∀ {j k : Nat}, j ≤ k → k ≤ ops.toList.length → ∀ {b : Nat}, (∀ i o t b' r f y, j ≤ i → i < k → ops.toList[i]? = some o → stTmp o = some t → (tr i).get t = .s (.p b' r f y) → b' ≠ b) →
  b < (tr j).mem.length → (tr k).mem[b]? = (tr j).mem[b]? := by
 intro j k hjk hk b hn hb
 obtain ⟨d, rfl⟩ : ∃ d, k = j + d := ⟨k - j, by omega⟩
 induction d with
 | zero => rfl
 | succ d ih =>
  have hD := h (j + d) ops.toList[j + d] (by simp)
  have ih := ih (by omega) (by omega) (fun i o t b' r f y h1 h2 => hn i o t b' r f y h1 (by omega))
  have hl := trm_le h (Nat.le_add_right j d) (by omega)
  rw [← ih]
  rw [show j + (d + 1) = j + d + 1 by omega]
  cases he : ex (j + d) with
  | false => rw [(hD.pass he).2.2]
  | true =>
   obtain ⟨s1, ctx, _, h1 | ⟨t, m', hst, hW, hm, _⟩⟩ := hD.run he
   ·obtain ⟨_, _, new, hm, _⟩ := h1
    rw [hm, List.getElem?_append_left (by omega)]
   ·rw [hm]
    obtain ⟨b', r, f, y, h2, h3⟩ := hW.here
    exact h3 b (fun e => hn (j + d) _ t b' r f y (by omega) (by omega) (by simp) hst h2 e.symm)
theorem trm_n (h : TrM E ops tr pv ex) : ∀ j, j ≤ ops.toList.length → (tr j).fr.n = (tr 0).fr.n ∧ (tr j).low = (tr 0).low
 | 0, _ => ⟨rfl, rfl⟩
 | j + 1, hj => by
  obtain ⟨h1, h2⟩ := trm_n h j (by omega)
  have hD := h j ops.toList[j] (List.getElem?_eq_getElem (by omega))
  exact ⟨hD.n.trans h1, hD.low.trans h2⟩
theorem trm_keys (h : TrM E ops tr pv ex) (h0 : ∀ t y, lookN t (tr 0).fr.sl = some y → t < (tr 0).fr.n) : ∀ j, j ≤ ops.toList.length → ∀ t y, lookN t (tr j).fr.sl = some y → t < (tr 0).fr.n
 | 0, _ => h0
 | j + 1, hj => by
  intro t y hy
  have hD := h j ops.toList[j] (List.getElem?_eq_getElem (by omega))
  rcases hD.keys t y hy with h1 | ⟨z, hz⟩
  ·rw [(trm_n h j (by omega)).1] at h1; exact h1
  ·exact trm_keys h h0 j (by omega) t z hz
theorem trm_keep (h : TrM E ops tr pv ex) {t i : Nat} : ∀ j, i ≤ j → j ≤ ops.toList.length → (∀ i' o, i ≤ i' → i' < j → ops.toList[i']? = some o → o.dst ≠ some t) → (tr j).get t = (tr i).get t := by
 intro j hij hj hn
 obtain ⟨d, rfl⟩ : ∃ d, j = i + d := ⟨j - i, by omega⟩
 induction d with
 | zero => rfl
 | succ d ih =>
  have hD := h (i + d) ops.toList[i + d] (by simp)
  rw [show i + (d + 1) = i + d + 1 by omega, hD.get t, if_neg (hn (i + d) ops.toList[i + d] (by omega) (by omega) (by simp))]
  exact ih (by omega) (by omega) (fun i' o h1 h2 => hn i' o h1 (by omega))
theorem trm_none (h : TrM E ops tr pv ex) {t : Nat} (j : Nat) (hj : j ≤ ops.toList.length) (hn : ∀ i o, i < j → ops.toList[i]? = some o → o.dst ≠ some t) : (tr j).get t = (tr 0).get t :=
 trm_keep h j (Nat.zero_le _) hj (fun i o _ h1 h2 => hn i o h1 h2)
theorem trm_some (h : TrM E ops tr pv ex) {t i : Nat} {oi : Oper} (hi : ops.toList[i]? = some oi) (hd : oi.dst = some t) : ∀ j, i < j → j ≤ ops.toList.length →
  (∀ i' o', i < i' → i' < j → ops.toList[i']? = some o' → o'.dst ≠ some t) → (tr j).get t = pv i := by
 intro j hij hj hn
 rw [trm_keep h j hij hj (fun i' o h1 h2 h3 => hn i' o (by omega) h2 h3)]
 have hD := h i oi hi
 rw [hD.get t, if_pos hd]
structure MInv (ops : Array Oper) (tr : Nat → St) (pv : Nat → PV) (base : Nat) (w0 : World) (lows : List (Array Value)) (ds : List Deferred) (listed : Array Bool) (lo nx : Nat) (J : Inj) (a : Act) (w : World) : Prop where
 size : listed.size = ops.toList.length
 closed : ∀ i k, listed.getD i false = true → bef ops i k = true → listed.getD k false = true
 lonx : lo ≤ nx
 nxle : nx ≤ ops.toList.length
 nxs : nx < ops.toList.length → ∃ o t, ops.toList[nx]? = some o ∧ stTmp o = some t
 seg : ∀ i o, lo ≤ i → i < nx → ops.toList[i]? = some o → stTmp o = none
 don : ∀ i o t, i < lo → ops.toList[i]? = some o → stTmp o = some t → listed.getD i false = true
 und : ∀ i, nx ≤ i → listed.getD i false = false
 src : lo = 0 ∨ ∃ q o t, lo = q + 1 ∧ ops.toList[q]? = some o ∧ stTmp o = some t ∧ listed.getD q false = true
 mem : ∀ k, lo ≤ k → k ≤ nx → RelM base (Jr J (tr k).mem.length) (tr k).mem w
 fresh : ∀ b bb, J b = some bb → b < (tr 0).mem.length ∨ ∃ i, i < ops.toList.length ∧ listed.getD i false = true ∧ (tr i).mem.length ≤ b ∧ b < (tr (i + 1)).mem.length
 tsize : a.tmps.size = (tr 0).fr.n
 last : ∀ t i o, ops.toList[i]? = some o → o.dst = some t → listed.getD i false = true →
  (∀ i' o', ops.toList[i']? = some o' → o'.dst = some t → listed.getD i' false = true → i' ≤ i) → RelP (Jr J (tr (max (i + 1) lo)).mem.length) (pv i) (a.tmps.getD t undef)
 none : ∀ t, (∀ i o, ops.toList[i]? = some o → o.dst = some t → listed.getD i false = false) → RelP (Jr J (tr 0).mem.length) ((tr 0).get t) (a.tmps.getD t undef)
 low : RelLow (Jr J (tr 0).mem.length) (tr 0).low lows
 below : Below base w0 w
 base : base ≤ w.heap.size
 defers : a.defers = ds
variable {base : Nat} {w0 : World} {lows : List (Array Value)} {ds : List Deferred} {listed : Array Bool} {lo nx : Nat} {J : Inj} {a : Act} {w : World}
theorem namesM_ok (hok : tempsOk ops = true) (hT : TrM E ops tr pv ex) (hI : MInv ops tr pv base w0 lows ds listed lo nx J a w) {j : Nat} {o : Oper} (ho : ops[j]? = some o) (hu : listed.getD j true = false)
  (hr : ∀ e ∈ o.after, Region.binds .any e = true → listed.getD e.on false = true) {t : Nat} (ht : t ∈ opTmps ops.toList o) :
  RelP (Jr J (tr (max j lo)).mem.length) ((tr j).get t) (a.tmps.getD t undef) ∧ (∀ i oi, ops.toList[i]? = some oi → oi.dst = some t → i ≠ j → (listed.getD i false = true ↔ i < j)) := by
 obtain ⟨_, hspec⟩ := tempsOk_spec hok ho
 have hju := getD_ft hu
 have hjl : j < ops.toList.length := by
  have := (Array.getElem?_eq_some_iff.1 ho).1
  simpa using this
 have hbef : ∀ k, bef ops j k = true → listed.getD k false = true := by
  intro k hk
  obtain ⟨e, he, hb, h1⟩ := bef_spec ho hk
  have h2 := hr e he hb
  rcases h1 with rfl | h1
  ·exact h2
  ·exact hI.closed _ _ h2 h1
 have hiff : ∀ i oi, ops.toList[i]? = some oi → oi.dst = some t → i ≠ j → (listed.getD i false = true ↔ i < j) := by
  intro i oi hi hd hne
  obtain ⟨k1, k2⟩ := hspec i oi t (by rw [← Array.getElem?_toList]; exact hi) hd hne ht
  constructor
  ·intro hli
   rcases Nat.lt_or_ge i j with h | h
   ·exact h
   ·have := hI.closed i j hli (k2 (by omega))
    rw [hju] at this
    cases this
  ·intro hlt
   exact hbef i (k1 hlt)
 refine ⟨?_, hiff⟩
 by_cases hw : ∃ i, i < j ∧ ∃ oi, ops.toList[i]? = some oi ∧ oi.dst = some t
 ·obtain ⟨i, hij, ⟨oi, hoi, hd⟩, hmax⟩ := last_of (fun i => ∃ oi, ops.toList[i]? = some oi ∧ oi.dst = some t) j hw
  have hl := (hiff i oi hoi hd (by omega)).2 hij
  have hrel := hI.last t i oi hoi hd hl (fun i' o' ho' hd' hl' => by
   by_cases e : i' = j
   ·subst e; rw [hju] at hl'; cases hl'
   ·have := (hiff i' o' ho' hd' e).1 hl'
    rcases Nat.lt_or_ge i i' with h | h
    ·exact absurd ⟨o', ho', hd'⟩ (hmax i' h this)
    ·exact h)
  rw [trm_some hT hoi hd j hij (by omega) (fun i' o' h1 h2 h3 h4 => hmax i' h1 h2 ⟨o', h3, h4⟩)]
  exact hrel.mono (Jr_mono (trm_le hT (by omega) (by have := hI.lonx; have := hI.nxle; omega)))
 ·have hn := hI.none t (fun i oi hi hd => by
   by_cases e : i = j
   ·subst e; exact hju
   ·cases hq : listed.getD i false with
    | false => rfl
    | true => exact absurd ⟨i, (hiff i oi hi hd e).1 hq, oi, hi, hd⟩ hw)
  rw [trm_none hT j (by omega) (fun i oi hi ho' hd => hw ⟨i, hi, oi, ho', hd⟩)]
  exact hn.mono (Jr_mono (trm_le hT (Nat.zero_le _) (by have := hI.lonx; have := hI.nxle; omega)))
theorem invA (hok : tempsOk ops = true) (hT : TrM E ops tr pv ex) (hI : MInv ops tr pv base w0 lows ds listed lo nx J a w) {j : Nat} {o : Oper} (hlj : lo ≤ j) (hjn : j < nx) (ho : ops[j]? = some o) (hu : listed.getD j true = false)
  (hr : ∀ e ∈ o.after, Region.binds .any e = true → listed.getD e.on false = true) {J' : Inj} {w' : World} {v : Value}
  (hext : Ext (Jr J (tr j).mem.length) J' (tr j).mem.length w) (hm : RelM base J' (tr (j + 1)).mem w') (hb : Below w.heap.size w w') (hv : RelP J' (pv j) v) :
  ∃ J2, MInv ops tr pv base w0 lows ds (listed.setIfInBounds j true) lo nx J2 (a.put o.dst v) w' := by
 have hjl : j < ops.toList.length := by
  have := (Array.getElem?_eq_some_iff.1 ho).1
  simpa using this
 have hoj : ops.toList[j]? = some o := by rw [Array.getElem?_toList]; exact ho
 have hD := hT j o hoj
 have hju := getD_ft hu
 have hnl := hI.nxle
 have hsz : j < listed.size := by rw [hI.size]; exact hjl
 have hlen1 := trm_le hT (Nat.le_succ j) hjl
 let J2 : Inj := fun b => if (tr j).mem.length ≤ b ∧ b < (tr (j + 1)).mem.length then J' b else J b
 have hfree : ∀ b, (tr j).mem.length ≤ b → b < (tr (j + 1)).mem.length → J b = none := by
  intro b h1 h2
  cases hq : J b with
  | none => rfl
  | some bb =>
   exfalso
   rcases hI.fresh b bb hq with h3 | ⟨i, hil, hli, h4, h5⟩
   ·have := trm_le hT (Nat.zero_le j) (by omega); omega
   ·by_cases e : i = j
    ·subst e; rw [hju] at hli; cases hli
    ·rcases Nat.lt_or_ge i j with h | h
     ·have := trm_le hT (show i + 1 ≤ j by omega) (by omega); omega
     ·have := trm_le hT (show j + 1 ≤ i by omega) (by omega); omega
 have hJJ2 : Inj.le J J2 := by
  intro b bb hb'
  simp only [J2]
  split
  ·rename_i h; rw [hfree b h.1 h.2] at hb'; cases hb'
  ·exact hb'
 have hJr : ∀ m, Inj.le (Jr J m) (Jr J2 m) := fun m => Jr_le fun b bb _ h => hJJ2 b bb h
 have hJr' : Inj.le J' (Jr J2 (tr (j + 1)).mem.length) := by
  intro b bb hb'
  have hlt := hm.lt hb'
  unfold Jr
  rw [if_pos hlt]
  simp only [J2]
  by_cases h : (tr j).mem.length ≤ b
  ·rw [if_pos ⟨h, hlt⟩]; exact hb'
  ·rw [if_neg (by omega)]
   rw [hext.old b (by omega)] at hb'
   exact (Jr_some hb').2
 have hset : ∀ i, i ≠ j → (listed.setIfInBounds j true).getD i false = listed.getD i false := fun i hi => Go.getD_set_ne false (fun h => hi h.symm)
 have hsetj : (listed.setIfInBounds j true).getD j false = true := by simp [hsz]
 have hbef : ∀ k, bef ops j k = true → listed.getD k false = true := by
  intro k hk
  obtain ⟨e, he, hb', h1⟩ := bef_spec ho hk
  have h2 := hr e he hb'
  rcases h1 with rfl | h1
  ·exact h2
  ·exact hI.closed _ _ h2 h1
 have hget : ∀ t, (a.put o.dst v).tmps.getD t undef = if o.dst = some t then v else a.tmps.getD t undef :=
  put_getD fun t ht => by rw [hI.tsize]; have := hD.lt t ht; rw [(trm_n hT j (by omega)).1] at this; exact this
 refine ⟨J2, ⟨by simp [hI.size], ?_, hI.lonx, hI.nxle, hI.nxs, hI.seg, fun i o' t h1 h2 h3 => getD_set_true (hI.don i o' t h1 h2 h3), fun i hi => by rw [hset i (by omega)]; exact hI.und i hi, (hI.src.imp id fun ⟨q, o', t, h1, h2, h3, h4⟩ => ⟨q, o', t, h1, h2, h3, getD_set_true h4⟩), ?_, ?_, ?_, ?_, ?_, ?_, ?_, ?_, ?_⟩⟩
 ·
  intro i k hi hk
  by_cases e : i = j
  ·subst e
   exact getD_set_true (hbef k hk)
  ·rw [hset i e] at hi
   exact getD_set_true (hI.closed i k hi hk)
 ·
  intro k hk1 hkn
  have hk : k ≤ ops.toList.length := by omega
  by_cases hkj : k ≤ j
  ·have hsame : Jr J2 (tr k).mem.length = Jr J (tr k).mem.length := by
    funext b
    unfold Jr
    split
    ·rename_i h
     simp only [J2]
     have := trm_le hT hkj (by omega)
     rw [if_neg (by omega)]
    ·rfl
   rw [hsame]
   have := (hI.mem k hk1 hkn).grow (new := []) (J' := Jr J (tr k).mem.length) (fun _ _ h => h) hb.size (fun i hi => hb.block i hi) (fun _ _ _ h => h)
    (fun b bb hb' hJ => by obtain ⟨h1, _⟩ := Jr_some hJ; omega) (fun b b' bb bb' pb hb' _ hp => by simp at hp)
   simpa using this
  ·have hkj' : j + 1 ≤ k := by omega
   have hlk := trm_le hT hkj' hk
   have hle2 : Inj.le (Jr J2 (tr (j + 1)).mem.length) (Jr J2 (tr k).mem.length) := Jr_mono hlk
   have hold := hI.mem k hk1 hkn
   have hcase : ∀ b bb, Jr J2 (tr k).mem.length b = some bb → (((tr j).mem.length ≤ b ∧ b < (tr (j + 1)).mem.length) ∧ J' b = some bb) ∨
     (¬ ((tr j).mem.length ≤ b ∧ b < (tr (j + 1)).mem.length) ∧ Jr J (tr k).mem.length b = some bb) := by
    intro b bb hJ
    obtain ⟨h1, h2⟩ := Jr_some hJ
    simp only [J2] at h2
    split at h2
    ·rename_i h; exact .inl ⟨h, h2⟩
    ·rename_i h; exact .inr ⟨h, by unfold Jr; rw [if_pos h1]; exact h2⟩
   refine ⟨fun b bb hJ => ?_, fun b b' bb bb' pb hp hown hJ hJb' hne => ?_⟩
   ·rcases hcase b bb hJ with ⟨hin, hJ'⟩ | ⟨hout, hJo⟩
    ·obtain ⟨pb, hpb, hB⟩ := hm.blk b bb hJ'
     refine ⟨pb, by rw [trm_pre hT hkj' hk (fun i o' h1 h2 h3 => hI.seg i o' (by omega) (by omega) h3) hin.2]; exact hpb, hB.of_cells (fun c cc hc => hle2 _ _ (hJr' _ _ hc)) (Nat.le_refl _) (fun _ => rfl) (fun _ => rfl)⟩
    ·obtain ⟨pb, hpb, hB⟩ := hold.blk b bb hJo
     exact ⟨pb, hpb, hB.of_cells (hJr _) hb.size (fun q => World.cell?_of_block (w := w) (hb.block _ hB.there)) (fun q => World.frozen?_of_block (w := w) (hb.block _ hB.there))⟩
   ·rcases hcase b bb hJ with ⟨hin, hJ'⟩ | ⟨hout, hJo⟩
    ·rcases hcase b' bb' hJb' with ⟨hin', hJ2'⟩ | ⟨hout', hJo'⟩
     ·refine hm.apart b b' bb bb' pb ?_ hown hJ' hJ2' hne
      rw [← trm_pre hT hkj' hk (fun i o' h1 h2 h3 => hI.seg i o' (by omega) (by omega) h3) hin.2]; exact hp
     ·obtain ⟨pb', _, hB'⟩ := hold.blk b' bb' hJo'
      have h1 := hext.new b bb hin.1 hJ'
      have h2 := hB'.there
      omega
    ·rcases hcase b' bb' hJb' with ⟨hin', hJ2'⟩ | ⟨hout', hJo'⟩
     ·obtain ⟨pb', _, hB'⟩ := hold.blk b bb hJo
      have h1 := hext.new b' bb' hin'.1 hJ2'
      have h2 := hB'.there
      omega
     ·exact hold.apart b b' bb bb' pb hp hown hJo hJo' hne
 ·
  intro b bb hJ
  simp only [J2] at hJ
  split at hJ
  ·rename_i h
   exact .inr ⟨j, hjl, hsetj, h.1, h.2⟩
  ·rcases hI.fresh b bb hJ with h | ⟨i, hil, hli, h1, h2⟩
   ·exact .inl h
   ·exact .inr ⟨i, hil, getD_set_true hli, h1, h2⟩
 ·
  cases hd : o.dst with
  | none => exact hI.tsize
  | some d => simpa [Act.put] using hI.tsize
 ·
  intro t i oi hi hd hli hmax
  rw [hget t]
  by_cases e : i = j
  ·subst e
   have : oi = o := by rw [hoj] at hi; exact (Option.some.inj hi).symm
   subst this
   rw [if_pos hd]
   rw [show max (i + 1) lo = i + 1 by omega]
   exact hv.mono hJr'
  ·rw [hset i e] at hli
   by_cases hdt : o.dst = some t
   ·
    exfalso
    have hle := hmax j o hoj hdt hsetj
    obtain ⟨_, hspec⟩ := tempsOk_spec hok ho
    obtain ⟨_, k2⟩ := hspec i oi t (by rw [← Array.getElem?_toList]; exact hi) hd e (opTmps_dst hdt)
    have := hI.closed i j hli (k2 (by omega))
    rw [hju] at this
    cases this
   ·rw [if_neg hdt]
    exact (hI.last t i oi hi hd hli (fun i' o' h1 h2 h3 => hmax i' o' h1 h2 (getD_set_true h3))).mono (hJr _)
 ·
  intro t hn
  rw [hget t]
  by_cases hdt : o.dst = some t
  ·have := hn j o hoj hdt
   rw [hsetj] at this
   cases this
  ·rw [if_neg hdt]
   refine (hI.none t (fun i oi hi hd => ?_)).mono (hJr _)
   have hne : i ≠ j := by
    intro e
    subst e
    rw [hoj] at hi
    cases hi
    exact hdt hd
   have := hn i oi hi hd
   rw [hset i hne] at this
   exact this
 ·exact hI.low.mono (hJr _)
 ·exact hI.below.trans (hb.mono hI.base)
 ·exact Nat.le_trans hI.base hb.size
 ·rw [put_defers]; exact hI.defers
theorem invB (hok : tempsOk ops = true) (hT : TrM E ops tr pv ex) (hI : MInv ops tr pv base w0 lows ds listed lo nx J a w) {j : Nat} {o : Oper} (hjlo : j < lo) (ho : ops[j]? = some o) (hu : listed.getD j true = false)
  (hr : ∀ e ∈ o.after, Region.binds .any e = true → listed.getD e.on false = true) {w' : World} {v : Value} (hb : Below w.heap.size w w') (hv : RelP (Jr J (tr lo).mem.length) (pv j) v) :
  MInv ops tr pv base w0 lows ds (listed.setIfInBounds j true) lo nx J (a.put o.dst v) w' := by
 have hjl : j < ops.toList.length := by
  have := (Array.getElem?_eq_some_iff.1 ho).1
  simpa using this
 have hoj : ops.toList[j]? = some o := by rw [Array.getElem?_toList]; exact ho
 have hD := hT j o hoj
 have hju := getD_ft hu
 have hsz : j < listed.size := by rw [hI.size]; exact hjl
 have hln := hI.lonx
 have hset : ∀ i, i ≠ j → (listed.setIfInBounds j true).getD i false = listed.getD i false := fun i hi => Go.getD_set_ne false (fun h => hi h.symm)
 have hsetj : (listed.setIfInBounds j true).getD j false = true := by simp [hsz]
 have hbef : ∀ k, bef ops j k = true → listed.getD k false = true := by
  intro k hk
  obtain ⟨e, he, hb', h1⟩ := bef_spec ho hk
  have h2 := hr e he hb'
  rcases h1 with rfl | h1
  ·exact h2
  ·exact hI.closed _ _ h2 h1
 have hget : ∀ t, (a.put o.dst v).tmps.getD t undef = if o.dst = some t then v else a.tmps.getD t undef :=
  put_getD fun t ht => by rw [hI.tsize]; have := hD.lt t ht; rw [(trm_n hT j (by omega)).1] at this; exact this
 refine ⟨by simp [hI.size], ?_, hI.lonx, hI.nxle, hI.nxs, hI.seg, fun i o' t h1 h2 h3 => getD_set_true (hI.don i o' t h1 h2 h3), fun i hi => by rw [hset i (by omega)]; exact hI.und i hi, (hI.src.imp id fun ⟨q, o', t, h1, h2, h3, h4⟩ => ⟨q, o', t, h1, h2, h3, getD_set_true h4⟩), ?_, ?_, ?_, ?_, ?_, hI.low, hI.below.trans (hb.mono hI.base), Nat.le_trans hI.base hb.size, by rw [put_defers]; exact hI.defers⟩
 ·intro i k hi hk
  by_cases e : i = j
  ·subst e
   exact getD_set_true (hbef k hk)
  ·rw [hset i e] at hi
   exact getD_set_true (hI.closed i k hi hk)
 ·intro k hk1 hk2
  have := (hI.mem k hk1 hk2).grow (new := []) (J' := Jr J (tr k).mem.length) (fun _ _ h => h) hb.size (fun i hi => hb.block i hi) (fun _ _ _ h => h)
   (fun b bb hb' hJ => by obtain ⟨h1, _⟩ := Jr_some hJ; omega) (fun b b' bb bb' pb hb' _ hp => by simp at hp)
  simpa using this
 ·intro b bb hJ
  rcases hI.fresh b bb hJ with h | ⟨i, hil, hli, h1, h2⟩
  ·exact .inl h
  ·exact .inr ⟨i, hil, getD_set_true hli, h1, h2⟩
 ·cases hd : o.dst with
  | none => exact hI.tsize
  | some d => simpa [Act.put] using hI.tsize
 ·intro t i oi hi hd hli hmax
  rw [hget t]
  by_cases e : i = j
  ·subst e
   have : oi = o := by rw [hoj] at hi; exact (Option.some.inj hi).symm
   subst this
   rw [if_pos hd, show max (i + 1) lo = lo by omega]
   exact hv
  ·rw [hset i e] at hli
   by_cases hdt : o.dst = some t
   ·exfalso
    have hle := hmax j o hoj hdt hsetj
    obtain ⟨_, hspec⟩ := tempsOk_spec hok ho
    obtain ⟨_, k2⟩ := hspec i oi t (by rw [← Array.getElem?_toList]; exact hi) hd e (opTmps_dst hdt)
    have := hI.closed i j hli (k2 (by omega))
    rw [hju] at this
    cases this
   ·rw [if_neg hdt]
    exact hI.last t i oi hi hd hli (fun i' o' h1 h2 h3 => hmax i' o' h1 h2 (getD_set_true h3))
 ·intro t hn
  rw [hget t]
  by_cases hdt : o.dst = some t
  ·have := hn j o hoj hdt
   rw [hsetj] at this
   cases this
  ·rw [if_neg hdt]
   refine hI.none t (fun i oi hi hd => ?_)
   have hne : i ≠ j := by
    intro e
    subst e
    rw [hoj] at hi
    cases hi
    exact hdt hd
   have := hn i oi hi hd
   rw [hset i hne] at this
   exact this
theorem next_st (ops : Array Oper) : ∀ (d k : Nat), k + d = ops.toList.length → ∃ n, k ≤ n ∧ n ≤ ops.toList.length ∧ (n < ops.toList.length → ∃ o t, ops.toList[n]? = some o ∧ stTmp o = some t) ∧ ∀ i o, k ≤ i → i < n → ops.toList[i]? = some o → stTmp o = none
 | 0, k, h => ⟨k, Nat.le_refl _, by omega, fun h1 => by omega, fun i o h1 h2 => by omega⟩
 | d + 1, k, h => by
  have hk : k < ops.toList.length := by omega
  cases hs : stTmp ops.toList[k] with
  | some t => exact ⟨k, Nat.le_refl _, by omega, fun _ => ⟨_, t, List.getElem?_eq_getElem hk, hs⟩, fun i o h1 h2 => by omega⟩
  | none =>
   obtain ⟨n, h1, h2, h3, h4⟩ := next_st ops d (k + 1) (by omega)
   refine ⟨n, by omega, h2, h3, fun i o h5 h6 h7 => ?_⟩
   by_cases e : i = k
   ·subst e
    rw [List.getElem?_eq_getElem hk] at h7
    injection h7 with h7
    rw [← h7]
    exact hs
   ·exact h4 i o (by omega) h6 h7
theorem invC (hok : tempsOk ops = true) (hT : TrM E ops tr pv ex) (hI : MInv ops tr pv base w0 lows ds listed lo nx J a w) {o : Oper} {t0 : Nat} (ho : ops[nx]? = some o) (hst : stTmp o = some t0) (hu : listed.getD nx true = false)
  (hr : ∀ e ∈ o.after, Region.binds .any e = true → listed.getD e.on false = true) {w' : World}
  (hpv : pv nx = .s .unk) (hm : RelM base (Jr J (tr nx).mem.length) (tr (nx + 1)).mem w') (hlen : (tr (nx + 1)).mem.length = (tr nx).mem.length) (hb : Below base w0 w') (hbs : base ≤ w'.heap.size) :
  ∃ nx', MInv ops tr pv base w0 lows ds (listed.setIfInBounds nx true) (nx + 1) nx' J (a.put o.dst undef) w' := by
 have hjl : nx < ops.toList.length := by
  have := (Array.getElem?_eq_some_iff.1 ho).1
  simpa using this
 have hoj : ops.toList[nx]? = some o := by rw [Array.getElem?_toList]; exact ho
 have hD := hT nx o hoj
 have hju := getD_ft hu
 have hsz : nx < listed.size := by rw [hI.size]; exact hjl
 have hln := hI.lonx
 obtain ⟨nx', n1, n2, n3, n4⟩ := next_st ops (ops.toList.length - (nx + 1)) (nx + 1) (by omega)
 have hset : ∀ i, i ≠ nx → (listed.setIfInBounds nx true).getD i false = listed.getD i false := fun i hi => Go.getD_set_ne false (fun h => hi h.symm)
 have hsetj : (listed.setIfInBounds nx true).getD nx false = true := by simp [hsz]
 have hbef : ∀ k, bef ops nx k = true → listed.getD k false = true := by
  intro k hk
  obtain ⟨e, he, hb', h1⟩ := bef_spec ho hk
  have h2 := hr e he hb'
  rcases h1 with rfl | h1
  ·exact h2
  ·exact hI.closed _ _ h2 h1
 have hget : ∀ t, (a.put o.dst undef).tmps.getD t undef = if o.dst = some t then undef else a.tmps.getD t undef :=
  put_getD fun t ht => by rw [hI.tsize]; have := hD.lt t ht; rw [(trm_n hT nx (by omega)).1] at this; exact this
 have hlt : ∀ b bb, J b = some bb → b < (tr nx).mem.length := by
  intro b bb hJ
  rcases hI.fresh b bb hJ with h | ⟨i, hil, hli, h1, h2⟩
  ·exact Nat.lt_of_lt_of_le h (trm_le hT (Nat.zero_le _) (by omega))
  ·have hin : i < nx := by
    rcases Nat.lt_or_ge i nx with h | h
    ·exact h
    ·rw [hI.und i h] at hli; cases hli
   exact Nat.lt_of_lt_of_le h2 (trm_le hT hin (by omega))
 refine ⟨nx', by simp [hI.size], ?_, n1, n2, n3, n4, ?_, fun i hi => by rw [hset i (by omega)]; exact hI.und i (by omega), .inr ⟨nx, o, t0, rfl, hoj, hst, hsetj⟩, ?_, ?_, ?_, ?_, ?_, hI.low, hb, hbs, by rw [put_defers]; exact hI.defers⟩
 ·intro i k hi hk
  by_cases e : i = nx
  ·subst e
   exact getD_set_true (hbef k hk)
  ·rw [hset i e] at hi
   exact getD_set_true (hI.closed i k hi hk)
 ·intro i o' t h1 h2 h3
  by_cases e : i = nx
  ·subst e; exact hsetj
  ·by_cases hl : i < lo
   ·exact getD_set_true (hI.don i o' t hl h2 h3)
   ·have := hI.seg i o' (by omega) (by omega) h2
    rw [this] at h3; cases h3
 ·intro k hk1 hk2
  have hle := trm_le hT hk1 (show k ≤ ops.toList.length by omega)
  have hsame : Jr J (tr k).mem.length = Jr J (tr nx).mem.length := by
   funext b
   unfold Jr
   cases hq : J b with
   | none => simp
   | some bb =>
    have := hlt b bb hq
    rw [if_pos (by omega), if_pos this]
  rw [hsame]
  have hpre : ∀ b, b < (tr nx).mem.length → (tr k).mem[b]? = (tr (nx + 1)).mem[b]? := fun b hb' => trm_pre hT hk1 (by omega) (fun i o' h1 h2 h3 => n4 i o' h1 (by omega) h3) (by omega)
  refine ⟨fun b bb hJ => ?_, fun b b' bb bb' pb hp hown hJ hJb' hne => ?_⟩
  ·obtain ⟨pb, hpb, hB⟩ := hm.blk b bb hJ
   exact ⟨pb, by rw [hpre b (Jr_some hJ).1]; exact hpb, hB⟩
  ·rw [hpre b (Jr_some hJ).1] at hp
   exact hm.apart b b' bb bb' pb hp hown hJ hJb' hne
 ·intro b bb hJ
  rcases hI.fresh b bb hJ with h | ⟨i, hil, hli, h1, h2⟩
  ·exact .inl h
  ·exact .inr ⟨i, hil, getD_set_true hli, h1, h2⟩
 ·cases hd : o.dst with
  | none => exact hI.tsize
  | some d => simpa [Act.put] using hI.tsize
 ·intro t i oi hi hd hli hmax
  rw [hget t]
  by_cases e : i = nx
  ·subst e
   have : oi = o := by rw [hoj] at hi; exact (Option.some.inj hi).symm
   subst this
   rw [if_pos hd, hpv]
   exact RelP.unk _ _
  ·rw [hset i e] at hli
   have hin : i < nx := by
    rcases Nat.lt_or_ge i nx with h | h
    ·exact h
    ·rw [hI.und i h] at hli; cases hli
   by_cases hdt : o.dst = some t
   ·exfalso
    have hle := hmax nx o hoj hdt hsetj
    omega
   ·rw [if_neg hdt]
    exact (hI.last t i oi hi hd hli (fun i' o' h1 h2 h3 => hmax i' o' h1 h2 (getD_set_true h3))).mono (Jr_mono (trm_le hT (by omega) (by omega)))
 ·intro t hn
  rw [hget t]
  by_cases hdt : o.dst = some t
  ·have := hn nx o hoj hdt
   rw [hsetj] at this
   cases this
  ·rw [if_neg hdt]
   refine hI.none t (fun i oi hi hd => ?_)
   have hne : i ≠ nx := by
    intro e
    subst e
    rw [hoj] at hi
    cases hi
    exact hdt hd
   have := hn i oi hi hd
   rw [hset i hne] at this
   exact this
theorem mixFront_spec (h : mixFront E ops = true) : (∀ o ∈ ops.toList, (quietOp E o || (stTmp o).isSome) = true) ∧ tempsOk ops = true ∧
  ∀ (j : Nat) (o : Oper) (t : Nat), ops.toList[j]? = some o → stTmp o = some t →
   (∀ i o', j ≤ i → ops.toList[i]? = some o' → o'.dst ≠ some t) ∧ (∀ i, j < i → i < ops.toList.length → bef ops i j = true) ∧
   ∀ i o', i < j → ops.toList[i]? = some o' → bef ops j i = true ∨ (floats o' = true ∧ ∀ t', ldTmp o' = some t' → ∀ q o'', i ≤ q → ops.toList[q]? = some o'' → o''.dst ≠ some t') := by
 unfold mixFront at h
 simp only [Bool.and_eq_true] at h
 obtain ⟨⟨h1, h2⟩, h3⟩ := h
 have hnd : ∀ (t i : Nat), ((ops.toList.drop i).all (notDst t)) = true → ∀ q o'', i ≤ q → ops.toList[q]? = some o'' → o''.dst ≠ some t := by
  intro t i h q o'' hq ho hd
  have hm : o'' ∈ ops.toList.drop i := by
   refine List.mem_of_getElem? (i := q - i) ?_
   rw [List.getElem?_drop, show i + (q - i) = q by omega]
   exact ho
  have := List.all_eq_true.1 h o'' hm
  unfold notDst at this
  rw [hd] at this
  simp [Nat.beq_refl] at this
 refine ⟨fun o ho => List.all_eq_true.1 h1 o ho, h2, fun j o t ho hst => ?_⟩
 have hjl : j < ops.toList.length := (List.getElem?_eq_some_iff.1 ho).1
 have h4 := List.all_eq_true.1 h3 j (by simpa using hjl)
 rw [ho] at h4
 simp only [Option.bind_some, hst, Bool.and_eq_true] at h4
 refine ⟨hnd t j h4.1, fun i hji hil => ?_, fun i o' hij ho' => ?_⟩
 ·have h5 := List.all_eq_true.1 h4.2 i (by simpa using hil)
  have hb : Nat.blt j i = true := by simp [Nat.blt_eq, hji]
  rw [hb] at h5
  exact h5
 ·have hil : i < ops.toList.length := (List.getElem?_eq_some_iff.1 ho').1
  have h5 := List.all_eq_true.1 h4.2 i (by simpa using hil)
  have hb : Nat.blt j i = false := by
   cases hq : Nat.blt j i with
   | true => have := nat_blt hq; omega
   | false => rfl
  rw [hb, ho', beq_ne (by omega : i ≠ j)] at h5
  simp only [cond_false, Bool.false_or, Bool.or_eq_true, Bool.and_eq_true] at h5
  rcases h5 with h5 | ⟨h5, h6⟩
  ·exact .inl h5
  ·refine .inr ⟨h5, fun t' ht' => ?_⟩
   rw [ht'] at h6
   exact hnd t' i h6
theorem ptrBlk_some {s : St} {t b : Nat} (h : ptrBlk s t = some b) : ∃ r f y, s.get t = .s (.p b r f y) := by
 unfold ptrBlk at h
 split at h
 ·rename_i b' r f y he
  injection h with h
  subst h
  exact ⟨r, f, y, he⟩
 ·cases h
theorem apartB_spec {s : St} (h : apartB ops s = true) {j : Nat} {o : Oper} {t : Nat} (ho : ops.toList[j]? = some o) (hst : stTmp o = some t) {i : Nat} {o' : Oper} {t' : Nat} (hij : i < j)
  (ho' : ops.toList[i]? = some o') (hld : ldTmp o' = some t') (hb : bef ops j i = false) : ∃ x y, ptrBlk s t = some x ∧ ptrBlk s t' = some y ∧ x ≠ y := by
 unfold apartB at h
 have hjl : j < ops.toList.length := (List.getElem?_eq_some_iff.1 ho).1
 have h4 := List.all_eq_true.1 h j (by simpa using hjl)
 rw [ho] at h4
 simp only [Option.bind_some, hst] at h4
 have h5 := List.all_eq_true.1 h4 i (by simpa using hij)
 rw [ho'] at h5
 have hb' : ((Region.before ops).getD j 0).testBit i = false := hb
 simp only [hb', Bool.false_or, Option.bind_some, hld] at h5
 split at h5
 ·rename_i x y h6 h7
  refine ⟨x, y, h6, h7, fun e => ?_⟩
  subst e
  simp [Nat.beq_refl] at h5
 ·cases h5
theorem draw_mix {P : Program} {Q : Exit → Act → World → Prop} (hE : EnvT P E) (hmix : mixFront E ops = true) (hT : TrM E ops tr pv ex) (hap : apartB ops (tr ops.toList.length) = true)
  (h0 : ∀ t y, lookN t (tr 0).fr.sl = some y → t < (tr 0).fr.n)
  (hQ : ∀ J a w, RelS base w0 J (tr ops.toList.length) a.tmps lows w → a.defers = ds → Q .normal a w) :
  ∀ (fuel : Nat) (listed : Array Bool) (lo nx : Nat) (J : Inj) (a : Act) (w : World), cnt listed ops.toList.length ≤ fuel → MInv ops tr pv base w0 lows ds listed lo nx J a w → wpAny P .any ops Q fuel listed a w := by
 obtain ⟨hall, hok, hsp⟩ := mixFront_spec hmix
 have hend : ∀ (listed : Array Bool) (lo nx : Nat) (J : Inj) (a : Act) (w : World), MInv ops tr pv base w0 lows ds listed lo nx J a w → (∀ i, i < ops.toList.length → listed.getD i true = true) → Q .normal a w := by
  intro listed lo nx J a w hI hall
  have hlist : ∀ i, i < ops.toList.length → listed.getD i false = true := by
   intro i hi
   have := hall i hi
   have hs : i < listed.size := by rw [hI.size]; exact hi
   simp [hs] at this ⊢
   exact this
  have hnx : nx = ops.toList.length := by
   rcases Nat.lt_or_ge nx ops.toList.length with h | h
   ·have h1 := hlist nx h
    rw [hI.und nx (Nat.le_refl _)] at h1
    cases h1
   ·have := hI.nxle; omega
  have hmemE := hI.mem nx hI.lonx (Nat.le_refl _)
  rw [hnx] at hmemE
  have hlol : lo ≤ ops.toList.length := by have := hI.lonx; omega
  refine hQ (Jr J (tr ops.toList.length).mem.length) a w ⟨⟨?_, ?_⟩, ?_, hmemE, hI.below, hI.base⟩ hI.defers
  ·rw [hI.tsize, (trm_n hT _ (Nat.le_refl _)).1]
  ·intro t y hy
   have hlt := trm_keys hT h0 _ (Nat.le_refl _) t y hy
   have hlt' : t < a.tmps.size := by rw [hI.tsize]; exact hlt
   refine ⟨a.tmps[t], by simp [hlt'], ?_⟩
   have hgy : (tr ops.toList.length).get t = y := by unfold St.get; rw [hy]; rfl
   have hgd : a.tmps.getD t undef = a.tmps[t] := by simp [hlt']
   rw [← hgy, ← hgd]
   by_cases hw : ∃ i, i < ops.toList.length ∧ ∃ oi, ops.toList[i]? = some oi ∧ oi.dst = some t
   ·obtain ⟨i, hil, ⟨oi, hoi, hd⟩, hmax⟩ := last_of (fun i => ∃ oi, ops.toList[i]? = some oi ∧ oi.dst = some t) _ hw
    rw [trm_some hT hoi hd _ hil (Nat.le_refl _) (fun i' o' h1 h2 h3 h4 => hmax i' h1 h2 ⟨o', h3, h4⟩)]
    refine (hI.last t i oi hoi hd (hlist i hil) (fun i' o' ho' hd' _ => ?_)).mono (Jr_mono (trm_le hT (by omega) (Nat.le_refl _)))
    rcases Nat.lt_or_ge i i' with h | h
    ·exact absurd ⟨o', ho', hd'⟩ (hmax i' h (List.getElem?_eq_some_iff.1 ho').1)
    ·exact h
   ·rw [trm_none hT _ (Nat.le_refl _) (fun i oi hi ho' hd => hw ⟨i, hi, oi, ho', hd⟩)]
    exact (hI.none t (fun i oi hi hd => absurd ⟨i, (List.getElem?_eq_some_iff.1 hi).1, oi, hi, hd⟩ hw)).mono (Jr_mono (trm_le hT (Nat.zero_le _) (Nat.le_refl _)))
  ·rw [(trm_n hT _ (Nat.le_refl _)).2]
   exact hI.low.mono (Jr_mono (trm_le hT (Nat.zero_le _) (Nat.le_refl _)))
 have hready : ∀ (listed : Array Bool) (lo nx : Nat) (J : Inj) (a : Act) (w : World), MInv ops tr pv base w0 lows ds listed lo nx J a w → Region.ready .any ops listed = [] → ∀ i, i < ops.toList.length → listed.getD i true = true := by
  intro listed lo nx J a w hI hr i
  induction i using Nat.strongRecOn with
  | _ i ih =>
   intro hi
   cases hq : listed.getD i true with
   | true => rfl
   | false =>
    exfalso
    have hoi : ops[i]? = some ops.toList[i] := by rw [← Array.getElem?_toList]; simp
    obtain ⟨hlt, _⟩ := tempsOk_spec hok hoi
    have : i ∈ Region.ready .any ops listed := mem_ready.2 ⟨hq, _, hoi, fun e he hb => by
     have h1 := hlt e he hb
     have h2 := ih e.on h1 (by omega)
     have hs : e.on < listed.size := by rw [hI.size]; omega
     simp [hs] at h2 ⊢
     exact h2⟩
    rw [hr] at this
    cases this
 intro fuel
 induction fuel with
 | zero =>
  intro listed lo nx J a w hc hI
  have hall := cnt_zero ops.toList.length (by omega) (listed := listed)
  refine ⟨?_, hend listed lo nx J a w hI hall⟩
  cases hq : Region.ready .any ops listed with
  | nil => rfl
  | cons i r =>
   exfalso
   have hi : i ∈ Region.ready .any ops listed := by rw [hq]; simp
   obtain ⟨hu, o, ho, _⟩ := mem_ready.1 hi
   have hil : i < ops.toList.length := by
    have := (Array.getElem?_eq_some_iff.1 ho).1
    simpa using this
   rw [hall i hil] at hu
   cases hu
 | succ fuel ih =>
  intro listed lo nx J a w hc hI
  refine ⟨fun hr => hend listed lo nx J a w hI (hready listed lo nx J a w hI hr), fun j hj => ?_⟩
  obtain ⟨hu, o, ho, hafter⟩ := mem_ready.1 hj
  have hjl : j < ops.toList.length := by
   have := (Array.getElem?_eq_some_iff.1 ho).1
   simpa using this
  have hoj : ops.toList[j]? = some o := by rw [Array.getElem?_toList]; exact ho
  have hD := hT j o hoj
  have hju := getD_ft hu
  have hcnt : cnt (listed.setIfInBounds j true) ops.toList.length ≤ fuel := by
   have := cnt_set (by rw [hI.size]; exact hjl) hu ops.toList.length hjl
   omega
  have hln := hI.lonx
  have hnl := hI.nxle
  have hjn : j ≤ nx := by
   rcases Nat.lt_or_ge nx j with h | h
   ·exfalso
    obtain ⟨on, tn, hon, hstn⟩ := hI.nxs (by omega)
    have hb := (hsp nx on tn hon hstn).2.1 j h hjl
    obtain ⟨e, he, hbd, h1⟩ := bef_spec ho hb
    have h2 := hafter e he hbd
    have h3 : listed.getD nx false = true := by
     rcases h1 with h1 | h1
     ·rw [← h1]; exact h2
     ·exact hI.closed _ _ h2 h1
    rw [hI.und nx (Nat.le_refl _)] at h3
    cases h3
   ·exact h
  have hnames : ∀ t, t ∈ opTmps ops.toList o → RelP (Jr J (tr (max j lo)).mem.length) ((tr j).get t) (a.tmps.getD t undef) := fun t ht => (namesM_ok hok hT hI ho hu hafter ht).1
  have hev : Evals (Jr J (tr (max j lo)).mem.length) (tr j) a.eval o.op := by
   intro y hy
   cases y with
   | tmp t => exact hnames t (opTmps_operand hy)
   | const v => exact relConst _ v
   | func f => exact Rel.fn rfl rfl (fun i l v hi _ => by simp at hi)
   | global g => exact RelP.unk _ _
  have hevs : ∀ (s1 : St), (∀ t, s1.get t = (tr j).get t) → Evals (Jr J (tr (max j lo)).mem.length) s1 a.eval o.op := by
   intro s1 hg y hy
   have := hev y hy
   cases y with
   | tmp t => show RelP _ (s1.get t) _; rw [hg t]; exact this
   | const v => exact this
   | func f => exact this
   | global g => exact this
  have hwant : Region.wanted o (yielded ops a.tmps) = ex j := by
   have hg := hD.guard
   cases hgd : o.guard with
   | none => rw [hgd] at hg; simp only at hg; rw [hg]; simp [Region.wanted, hgd]
   | some gw =>
    obtain ⟨g, want⟩ := gw
    rw [hgd] at hg
    obtain ⟨t, h1, h23⟩ := hg
    have hrel := hnames t (opTmps_guard hgd h1)
    rcases h23 with ⟨b, h2, h3⟩ | ⟨h2, h3⟩
    ·rw [h2] at hrel
     have hval : a.tmps.getD t undef = .bool b := by
      generalize a.tmps.getD t undef = vv at hrel
      cases hrel
      rfl
     have hy : yielded ops a.tmps g = some b := by
      unfold yielded
      rw [← Array.getElem?_toList, h1]
      simp only [Option.bind_some]
      have hlt : t < a.tmps.size := by
       rcases Nat.lt_or_ge t a.tmps.size with h | h
       ·exact h
       ·simp [Array.getElem?_eq_none h] at hval
        cases hval
      simp [hlt] at hval
      simp [hlt, hval]
     rw [h3]
     simp [Region.wanted, hgd, hy]
    ·rw [h2] at hrel
     have hval := relP_undef hrel
     have hy : yielded ops a.tmps g = none := by
      unfold yielded
      rw [← Array.getElem?_toList, h1]
      simp only [Option.bind_some]
      rcases Nat.lt_or_ge t a.tmps.size with hlt | h
      ·simp [hlt] at hval
       simp [hlt, hval, Go.undef]
      ·simp [Array.getElem?_eq_none h]
     rw [h3]
     simp [Region.wanted, hgd, hy]
  unfold wpOp
  rw [ho]
  simp only
  rw [hwant]
  by_cases hst : ∃ t, stTmp o = some t
  ·
   obtain ⟨t, hst⟩ := hst
   have hjx : j = nx := by
    rcases Nat.lt_or_ge j nx with h | h
    ·exfalso
     by_cases hl : j < lo
     ·have := hI.don j o t hl hoj hst
      rw [hju] at this; cases this
     ·have := hI.seg j o (by omega) h hoj
      rw [this] at hst; cases hst
    ·omega
   subst hjx
   have he : ex j = true := by
    cases he : ex j with
    | true => rfl
    | false => have := (hD.pass he).1; rw [this] at hst; cases hst
   rw [he, if_pos rfl]
   obtain ⟨s1, ctx, hs, ⟨h1, _⟩ | ⟨t', m', h1, hW, hm', hpv, hpar⟩⟩ := hD.run he
   ·rw [h1] at hst; cases hst
   ·have hmax : max j lo = j := by omega
    have hev1 := hevs s1 hs.get
    rw [hmax] at hev1
    have hmj := hI.mem j (by omega) (Nat.le_refl _)
    obtain ⟨w', hr, hm2, hbl, hsz⟩ := store_run (a := a) hE h1 hev1 (by rw [hs.mem]; exact hmj) hpar
    have hlen : (tr (j + 1)).mem.length = (tr j).mem.length := by rw [hm', hW.len]
    obtain ⟨nx', hI2⟩ := invC hok hT hI ho h1 hu hafter hpv (by rw [hm']; exact hm2) hlen (hbl _ hI.below) (by rw [hsz]; exact hI.base)
    have hdone : Done P a.eval o w (fun v w' => wpAny P .any ops Q fuel (listed.setIfInBounds j true) (a.put o.dst v) w') := .inr (.inl ⟨w', hr, ih _ _ _ J _ w' hcnt hI2⟩)
    exact .inl (hdone.wp fun v w' h => h)
  ·have hst : stTmp o = none := by
    cases h : stTmp o with
    | none => rfl
    | some t => exact absurd ⟨t, h⟩ hst
   have hjx : j < nx := by
    rcases Nat.lt_or_ge j nx with h | h
    ·exact h
    ·exfalso
     have e : j = nx := by omega
     subst e
     obtain ⟨on, tn, hon, hstn⟩ := hI.nxs hjl
     rw [hoj] at hon
     injection hon with hon
     rw [← hon, hst] at hstn
     cases hstn
   have hqo : quietOp E o = true := by
    have := hall o (List.mem_of_getElem? hoj)
    rw [hst] at this
    simpa using this
   by_cases hlj : lo ≤ j
   ·have hmax : max j lo = j := by omega
    rw [hmax] at hev hevs
    have hmj := hI.mem j hlj (by omega)
    cases he : ex j with
    | false =>
     rw [if_neg (by simp)]
     obtain ⟨_, hp1, hp2⟩ := hD.pass he
     obtain ⟨J2, hI2⟩ := invA hok hT hI hlj hjx ho hu hafter (J' := Jr J (tr j).mem.length) (w' := w) (v := undef) (Ext.refl hmj) (by rw [hp2]; exact hmj) (Below.refl _ _) (by rw [hp1]; exact RelP.undef _)
     exact ih _ _ _ J2 _ w hcnt hI2
    | true =>
     rw [if_pos rfl]
     obtain ⟨s1, ctx, hs, ⟨_, _, new, hmem, hpar⟩ | ⟨t', m', h1, _⟩⟩ := hD.run he
     ·have hdone := quiet_sound (R := fun v w' => wpAny P .any ops Q fuel (listed.setIfInBounds j true) (a.put o.dst v) w') (K := fun v s' => some (v, s')) (x := (pv j, { s1 with mem := s1.mem ++ new }))
       (hd := fun _ _ _ _ _ => none) (ctx := ctx) hE hqo (hevs s1 hs.get) (by rw [hs.mem]; exact hmj) hI.base (fun v pv' new' J' w' hk hext hm hb hv => by
        injection hk with hk
        injection hk with hk1 hk2
        have hnew : new' = new := by
         injection hk2 with _ _ hk2
         exact List.append_cancel_left hk2
        subst hk1
        subst hnew
        rw [hs.mem] at hext hm
        rw [← hmem] at hm
        obtain ⟨J2, hI2⟩ := invA hok hT hI hlj hjx ho hu hafter hext hm hb hv
        exact ih _ _ _ J2 _ w' hcnt hI2) (hpar _ _ _)
      exact .inl (hdone.wp fun v w' h => h)
     ·rw [hst] at h1; cases h1
   ·have hjlo : j < lo := by omega
    have hmax : max j lo = lo := by omega
    rw [hmax] at hevs
    have hmlo := hI.mem lo (Nat.le_refl _) hln
    cases he : ex j with
    | false =>
     rw [if_neg (by simp)]
     obtain ⟨_, hp1, hp2⟩ := hD.pass he
     exact ih _ _ _ J _ w hcnt (invB hok hT hI hjlo ho hu hafter (Below.refl _ _) (by rw [hp1]; exact RelP.undef _))
    | true =>
     rw [if_pos rfl]
     obtain ⟨s1, ctx, hs, ⟨_, _, new, hmem, hpar⟩ | ⟨t', m', h1, _⟩⟩ := hD.run he
     ·
      have hnb : ∀ q oq tq, j < q → q < lo → ops.toList[q]? = some oq → stTmp oq = some tq → bef ops q j = false := by
       intro q oq tq hjq hql hoq hstq
       cases hb : bef ops q j with
       | false => rfl
       | true =>
        have := hI.closed q j (hI.don q oq tq hql hoq hstq) hb
        rw [hju] at this; cases this
      obtain ⟨q, oq, tq, hlq, hoq, hstq, hliq⟩ : ∃ q o t, lo = q + 1 ∧ ops.toList[q]? = some o ∧ stTmp o = some t ∧ listed.getD q false = true := by
       rcases hI.src with h | h
       ·omega
       ·exact h
      have hjq : j < q := by
       rcases Nat.lt_or_ge j q with h | h
       ·exact h
       ·exfalso
        have e : j = q := by omega
        subst e
        rw [hju] at hliq; cases hliq
      obtain ⟨hfl, hldn⟩ : floats o = true ∧ ∀ t', ldTmp o = some t' → ∀ q o'', j ≤ q → ops.toList[q]? = some o'' → o''.dst ≠ some t' := by
       rcases (hsp q oq tq hoq hstq).2.2 j o hjq hoj with h | h
       ·rw [hnb q oq tq hjq (by omega) hoq hstq] at h; cases h
       ·exact h
      obtain ⟨hnew, hpar2⟩ := float_mem (M := (tr lo).mem) hfl (fun c pb hc => by rw [hs.mem] at hc; exact trm_cols hT (by omega) (by omega) c pb hc)
       (fun t b r f y hld hg hbl => by
        rw [hs.mem] at hbl ⊢
        rw [hs.get] at hg
        refine trm_apart hT (by omega) (by omega) (fun i oi ti b' r' f' y' h1 h2 h3 h4 h5 => ?_) hbl
        have hji : j < i := by
         rcases Nat.lt_or_ge j i with h | h
         ·exact h
         ·exfalso
          have e : j = i := by omega
          subst e
          rw [hoj] at h3
          injection h3 with h3
          rw [← h3, hst] at h4; cases h4
        obtain ⟨x, y1, hx, hy, hne⟩ := apartB_spec hap h3 h4 hji hoj hld (hnb i oi ti hji h2 h3 h4)
        obtain ⟨r1, f1, z1, hx⟩ := ptrBlk_some hx
        obtain ⟨r2, f2, z2, hy⟩ := ptrBlk_some hy
        have hil : i < ops.toList.length := (List.getElem?_eq_some_iff.1 h3).1
        rw [trm_keep hT _ (Nat.le_of_lt hil) (Nat.le_refl _) (fun i' o' k1 _ k3 => (hsp i oi ti h3 h4).1 i' o' k1 k3), h5] at hx
        rw [trm_keep hT _ (Nat.le_of_lt hjl) (Nat.le_refl _) (fun i' o' k1 _ k3 => hldn t hld i' o' k1 k3), hg] at hy
        injection hx with hx
        injection hy with hy
        injection hx with hx
        injection hy with hy
        injection hx with hx
        injection hy with hy
        rw [hx, hy]
        exact hne) hpar
      have hdone := quiet_sound (R := fun v w' => wpAny P .any ops Q fuel (listed.setIfInBounds j true) (a.put o.dst v) w') (K := fun v s' => some (v, s')) (x := (pv j, { s1 with mem := (tr lo).mem }))
       (hd := fun _ _ _ _ _ => none) (ctx := ctx) (s := { s1 with mem := (tr lo).mem }) hE hqo (hevs _ hs.get) hmlo hI.base (fun v pv' new' J' w' hk hext hm hb hv => by
        injection hk with hk
        injection hk with hk1 hk2
        subst hk1
        have hnew : new' = [] := by
         have := congrArg St.mem hk2
         exact List.append_right_eq_self.1 this
        subst hnew
        have hle : Inj.le J' (Jr J (tr lo).mem.length) := by
         intro b bb hJ
         have hlt := hm.lt hJ
         simp only [List.append_nil] at hlt
         rw [← hext.old b hlt]
         exact hJ
        exact ih _ _ _ J _ w' hcnt (invB hok hT hI hjlo ho hu hafter hb (hv.mono hle))) (hpar2 _ _ _)
      exact .inl (hdone.wp fun v w' h => h)
     ·rw [hst] at h1; cases h1
end
theorem mix_ok {P : Program} {E : Env} (hE : EnvT P E) {β : Type} {hd : Hd β} {x : β} {base : Nat} {w0 : World} {lows : List (Array Value)} {Q : Exit → Act → World → Prop} {ctx : List Nat} {ops : Array Oper} {K : St → Option β} {s : St} {J : Inj} {a : Act} {w : World}
  (hmix : mixFront E ops = true) (h : exOps E hd ctx ops.toList 0 ops.toList s (fun s' => bif apartB ops s' then K s' else none) = some x) (hS : RelS base w0 J s a.tmps lows w)
  (hQ : ∀ s' J' a' w', K s' = some x → RelS base w0 J' s' a'.tmps lows w' → a'.defers = a.defers → Q .normal a' w') :
  wpAny P .any ops Q ops.size (Array.replicate ops.size false) a { w with drawn := w.drawn + 1 } := by
 have hsp := mixFront_spec hmix
 obtain ⟨tr, pv, ex, h0, hK, hT⟩ := trace_mix (fun f fo hl => (hE.fns f fo hl).1) ops.toList 0 s (List.all_eq_true.2 hsp.1) h
 obtain ⟨hap, hK⟩ := cond_some hK
 subst h0
 have hkeys : ∀ t y, lookN t (tr 0).fr.sl = some y → t < (tr 0).fr.n := by
  intro t y hy
  obtain ⟨v, hv, _⟩ := hS.fr.2 t y hy
  rw [← hS.fr.1]
  exact (Array.getElem?_eq_some_iff.1 hv).1
 have hJr : Jr J (tr 0).mem.length = J := by
  funext b
  unfold Jr
  split
  ·rfl
  ·rename_i hn
   cases hq : J b with
   | none => rfl
   | some bb => exact absurd (hS.mem.lt hq) hn
 have hlisted : ∀ i, (Array.replicate ops.size false).getD i false = false := by
  intro i
  rcases Nat.lt_or_ge i ops.size with h | h
  ·simp [h]
  ·simp [h]
 have hmem0 : RelM base J (tr 0).mem ({ w with drawn := w.drawn + 1 } : World) :=
  ⟨fun b bb hb => by
   obtain ⟨pb, hp, hB⟩ := hS.mem.blk b bb hb
   exact ⟨pb, hp, hB.of_cells (w := w) (fun _ _ h => h) (Nat.le_refl _) (fun _ => rfl) (fun _ => rfl)⟩, hS.mem.apart⟩
 obtain ⟨nx, n1, n2, n3, n4⟩ := next_st ops ops.toList.length 0 (by omega)
 refine draw_mix (E := E) (tr := tr) (pv := pv) (ex := ex) (base := base) (w0 := w0) (lows := lows) (ds := a.defers) (J := J) hE hmix hT hap hkeys (fun J' a' w' hS' hd' => hQ (tr ops.toList.length) J' a' w' hK hS' hd') ops.size _ 0 nx a _ ?_ ?_
 ·have : ∀ k, cnt (Array.replicate ops.size false) k ≤ k := by
   intro k
   induction k with
   | zero => exact Nat.le_refl _
   | succ k ih =>
    simp only [cnt]
    cases (Array.replicate ops.size false).getD k true <;> simp <;> omega
  have := this ops.toList.length
  simpa using this
 ·refine ⟨by simp, ?_, Nat.zero_le _, n2, n3, n4, fun i o t hi => by omega, fun i _ => hlisted i, .inl rfl, ?_, ?_, ?_, ?_, ?_, ?_, ?_, hS.base, rfl⟩
  ·intro i k hi; rw [hlisted] at hi; cases hi
  ·intro k _ hkn
   have hk : k ≤ ops.toList.length := by omega
   have hle := trm_le hT (Nat.zero_le k) hk
   have hsame : Jr J (tr k).mem.length = J := by
    funext b
    unfold Jr
    split
    ·rfl
    ·rename_i hn
     cases hq : J b with
     | none => rfl
     | some bb => exact absurd (hS.mem.lt hq) (by omega)
   rw [hsame]
   refine ⟨fun b bb hb => ?_, fun b b' bb bb' pb hp ho hb hb' hne => ?_⟩
   ·obtain ⟨pb, hp, hB⟩ := hmem0.blk b bb hb
    exact ⟨pb, by rw [trm_pre hT (Nat.zero_le k) hk (fun i o h1 h2 h3 => n4 i o h1 (by omega) h3) (hS.mem.lt hb)]; exact hp, hB⟩
   ·rw [trm_pre hT (Nat.zero_le k) hk (fun i o h1 h2 h3 => n4 i o h1 (by omega) h3) (hS.mem.lt hb)] at hp
    exact hS.mem.apart b b' bb bb' pb hp ho hb hb' hne
  ·intro b bb hb; exact .inl (hS.mem.lt hb)
  ·exact hS.fr.1
  ·intro t i o hi hd hli; rw [hlisted] at hli; cases hli
  ·intro t _; rw [hJr]; exact hS.fr.get t
  ·rw [hJr]; exact hS.low
  ·exact hS.below.drew
end Go.Sy
