/- The evaluator. -/
import Derived.Test.YtjmbhhinmbgneaaGreatSzPar
import Derived.Orders
namespace Go.Sy
open Go.RowKit (Below)
def bef (ops : Array Oper) (j k : Nat) : Bool := ((Region.before ops).getD j 0).testBit k
theorem val_bit (acc : Array Nat) : ∀ (es : List Edge) (s k : Nat),
  (es.foldl (fun s e => if Region.binds .any e then s ||| 2 ^ e.on ||| acc.getD e.on 0 else s) s).testBit k = true →
   s.testBit k = true ∨ ∃ e ∈ es, Region.binds .any e = true ∧ (e.on = k ∨ (acc.getD e.on 0).testBit k = true)
 | [], s, k, h => .inl h
 | e :: es, s, k, h => by
  simp only [List.foldl_cons] at h
  rcases val_bit acc es _ k h with h1 | ⟨e', he', h1⟩
  ·split at h1
   ·rename_i hb
    simp only [Nat.testBit_or, Nat.testBit_two_pow, Bool.or_eq_true, decide_eq_true_eq] at h1
    rcases h1 with (h1 | h1) | h1
    ·exact .inl h1
    ·exact .inr ⟨e, by simp, hb, .inl h1⟩
    ·exact .inr ⟨e, by simp, hb, .inr h1⟩
   ·exact .inl h1
  ·exact .inr ⟨e', by simp [he'], h1⟩
def BefOk (acc : Array Nat) (pre : List Oper) : Prop :=
 acc.size = pre.length ∧ ∀ (j : Nat) (o : Oper), pre[j]? = some o → ∀ k, (acc.getD j 0).testBit k = true →
  ∃ e ∈ o.after.toList, Region.binds .any e = true ∧ (e.on = k ∨ (acc.getD e.on 0).testBit k = true)
theorem getD_push_lt (acc : Array Nat) (v j : Nat) (h : j < acc.size) : (acc.push v).getD j 0 = acc.getD j 0 := by
 simp [Array.getD_eq_getD_getElem?, Array.getElem?_push, h, Nat.ne_of_lt h]
theorem befOk_step {acc : Array Nat} {pre : List Oper} (h : BefOk acc pre) (o : Oper) :
  BefOk (acc.push (o.after.foldl (fun s e => if Region.binds .any e then s ||| 2 ^ e.on ||| acc.getD e.on 0 else s) 0)) (pre ++ [o]) := by
 refine ⟨by simp [h.1], fun j o' hj k hk => ?_⟩
 have keep : ∀ (e : Edge), (acc.getD e.on 0).testBit k = true → ((acc.push (o.after.foldl (fun s e => if Region.binds .any e then s ||| 2 ^ e.on ||| acc.getD e.on 0 else s) 0)).getD e.on 0).testBit k = true := by
  intro e he
  have hlt : e.on < acc.size := by
   rcases Nat.lt_or_ge e.on acc.size with h | h
   ·exact h
   ·simp [Array.getD_eq_getD_getElem?, Array.getElem?_eq_none h] at he
  rw [getD_push_lt _ _ _ hlt]
  exact he
 by_cases hlt : j < pre.length
 ·rw [List.getElem?_append_left hlt] at hj
  rw [getD_push_lt _ _ _ (by rw [h.1]; exact hlt)] at hk
  obtain ⟨e, he, hb, h1⟩ := h.2 j o' hj k hk
  exact ⟨e, he, hb, h1.imp id (keep e)⟩
 ·have hjl : j = pre.length := by
   have := (List.getElem?_eq_some_iff.1 hj).1
   simp at this
   omega
  subst hjl
  have ho : o' = o := by simpa using hj.symm
  subst ho
  have hv : (acc.push (o'.after.foldl (fun s e => if Region.binds .any e then s ||| 2 ^ e.on ||| acc.getD e.on 0 else s) 0)).getD pre.length 0 = o'.after.toList.foldl (fun s e => if Region.binds .any e then s ||| 2 ^ e.on ||| acc.getD e.on 0 else s) 0 := by
   rw [← h.1]
   simp [Array.getD_eq_getD_getElem?]
  rw [hv] at hk
  rcases val_bit acc o'.after.toList 0 k hk with h1 | ⟨e, he, hb, h1⟩
  ·simp at h1
  ·exact ⟨e, he, hb, h1.imp id (keep e)⟩
theorem befOk_all (ops : Array Oper) : BefOk (Region.before ops) ops.toList := by
 have key : ∀ (l pre : List Oper) (acc : Array Nat), BefOk acc pre →
   BefOk (l.foldl (fun acc o => acc.push (o.after.foldl (fun s e => if Region.binds .any e then s ||| 2 ^ e.on ||| acc.getD e.on 0 else s) 0)) acc) (pre ++ l) := by
  intro l
  induction l with
  | nil => intro pre acc h; simpa using h
  | cons o l ih =>
   intro pre acc h
   have := ih (pre ++ [o]) _ (befOk_step h o)
   simpa using this
 have := key ops.toList [] #[] ⟨rfl, fun j o h => by simp at h⟩
 unfold Region.before
 rw [← Array.foldl_toList]
 simpa using this
theorem bef_spec {ops : Array Oper} {j k : Nat} {o : Oper} (ho : ops[j]? = some o) (h : bef ops j k = true) : ∃ e ∈ o.after, Region.binds .any e = true ∧ (e.on = k ∨ bef ops e.on k = true) := by
 obtain ⟨e, he, hb, h1⟩ := (befOk_all ops).2 j o (by simpa using ho) k h
 exact ⟨e, by simpa using he, hb, h1⟩
theorem hasN_iff {b : Nat} : ∀ {l : List Nat}, hasN b l = true ↔ b ∈ l
 | [] => by simp [hasN]
 | c :: r => by
  simp only [hasN, Bool.or_eq_true, List.mem_cons, hasN_iff (l := r)]
  constructor
  ·rintro (h | h)
   ·exact .inl (nat_beq h)
   ·exact .inr h
  ·rintro (h | h)
   ·subst h; exact .inl (Nat.beq_refl _)
   ·exact .inr h
theorem tempsOk_spec {ops : Array Oper} (h : tempsOk ops = true) {j : Nat} {o : Oper} (ho : ops[j]? = some o) :
  (∀ e ∈ o.after, Region.binds .any e = true → e.on < j) ∧
  ∀ (i : Nat) (oi : Oper) (d : Nat), ops[i]? = some oi → oi.dst = some d → i ≠ j → d ∈ opTmps ops.toList o → (i < j → bef ops j i = true) ∧ (j < i → bef ops i j = true) := by
 unfold tempsOk at h
 simp only at h
 have hj : j < ops.toList.length := by
  have := (Array.getElem?_eq_some_iff.1 ho).1
  simpa using this
 have h1 := List.all_eq_true.1 h j (by simpa using hj)
 have hoj : ops.toList[j]? = some o := by rw [Array.getElem?_toList]; exact ho
 rw [hoj] at h1
 simp only [Bool.and_eq_true] at h1
 refine ⟨fun e he hb => ?_, fun i oi d hi hd hne hm => ?_⟩
 ·have h2 := List.all_eq_true.1 h1.1 e (by simpa using he)
  rw [hb] at h2
  exact nat_blt (by simpa using h2)
 ·have hil : i < ops.toList.length := by
   have := (Array.getElem?_eq_some_iff.1 hi).1
   simpa using this
  have h2 := List.all_eq_true.1 h1.2 i (by simpa using hil)
  have hoi : ops.toList[i]? = some oi := by rw [Array.getElem?_toList]; exact hi
  rw [hoi] at h2
  simp only [Option.bind_some, hd, beq_ne hne, Bool.false_or, hasN_iff.2 hm, Bool.not_true] at h2
  refine ⟨fun hlt => ?_, fun hlt => ?_⟩
  ·have hb : Nat.blt i j = true := by simp [Nat.blt_eq, hlt]
   rw [hb] at h2
   exact h2
  ·have hb : Nat.blt i j = false := by
    cases hq : Nat.blt i j with
    | true => have := nat_blt hq; omega
    | false => rfl
   rw [hb] at h2
   exact h2
structure SameSt (s s1 : St) : Prop where
 get : ∀ t, s1.get t = s.get t
 mem : s1.mem = s.mem
 n : s1.fr.n = s.fr.n
 low : s1.low = s.low
 keys : ∀ t y, lookN t s1.fr.sl = some y → t < s.fr.n ∨ ∃ z, lookN t s.fr.sl = some z
structure Did (E : Env) (l : List Oper) (o : Oper) (s : St) (pv : PV) (ex : Bool) (s' : St) : Prop where
 guard : match o.guard with
  | none => ex = true
  | some (g, want) => ∃ t, (l[g]?).bind (·.dst) = some t ∧ ((∃ b, s.get t = .s (.b0 b) ∧ ex = (b == want)) ∨ (s.get t = .tup [] ∧ ex = false))
 run : ex = true → ∃ s1 new ctx, SameSt s s1 ∧ s'.mem = s.mem ++ new ∧ ∀ (γ : Type) (hd' : Hd γ) (K' : PV → St → Option γ), exOp E hd' ctx o.op s1 K' = K' pv { s1 with mem := s1.mem ++ new }
 pass : ex = false → pv = .tup [] ∧ s'.mem = s.mem
 get : ∀ t, s'.get t = if o.dst = some t then pv else s.get t
 n : s'.fr.n = s.fr.n
 low : s'.low = s.low
 lt : ∀ d, o.dst = some d → d < s.fr.n
 keys : ∀ t y, lookN t s'.fr.sl = some y → t < s.fr.n ∨ ∃ z, lookN t s.fr.sl = some z
theorem put_get {s s' : St} {d : Option Nat} {x : PV} (h : s.put d x = some s') : (∀ t, s'.get t = if d = some t then x else s.get t) ∧ s'.fr.n = s.fr.n ∧ s'.low = s.low ∧ s'.mem = s.mem ∧ ∀ e, d = some e → e < s.fr.n := by
 cases d with
 | none =>
  simp [St.put] at h
  subst h
  simp
 | some d =>
  simp only [St.put] at h
  obtain ⟨h1, h2⟩ := cond_some h
  have h1 := nat_blt h1
  injection h2 with h2
  subst h2
  refine ⟨fun t => ?_, rfl, rfl, rfl, fun e he => by cases he; exact h1⟩
  unfold St.get
  simp only
  rw [lookN_cons]
  by_cases e : t = d
  ·subst e; simp
  ·rw [if_neg e, if_neg (fun he => e (by injection he with he; exact he.symm))]
theorem put_keys {s s' : St} {d : Option Nat} {x : PV} (h : s.put d x = some s') : ∀ t y, lookN t s'.fr.sl = some y → t < s.fr.n ∨ ∃ z, lookN t s.fr.sl = some z := by
 intro t y hy
 cases d with
 | none =>
  simp [St.put] at h
  subst h
  exact .inr ⟨y, hy⟩
 | some d =>
  simp only [St.put] at h
  obtain ⟨h1, h2⟩ := cond_some h
  have h1 := nat_blt h1
  injection h2 with h2
  subst h2
  simp only at hy
  rw [lookN_cons] at hy
  split at hy
  ·rename_i e; subst e; exact .inl h1
  ·exact .inr ⟨y, hy⟩
theorem reput_same {s s' : St} {t : Nat} {b : Bool} (hg : s.get t = .s (.b0 b)) (h : s.put (some t) (.s (.b0 b)) = some s') : SameSt s s' := by
 obtain ⟨h1, h2, h3, h4, _⟩ := put_get h
 refine ⟨fun u => ?_, h4, h2, h3, put_keys h⟩
 rw [h1 u]
 split
 ·rename_i e
  injection e with e
  subst e
  exact hg.symm
 ·rfl
section trace
variable {β : Type} {E : Env} {hd : Hd β} {ctx : List Nat} {K : St → Option β} {x : β}
theorem trace_ok (hF : ∀ f fo, lookFO f E.fns = some fo → FOpar fo) {l : List Oper} : ∀ (rest : List Oper) (i : Nat) (s : St), rest.all (quietOp E) = true → exOps E hd ctx l i rest s K = some x →
  ∃ (tr : Nat → St) (pv : Nat → PV) (ex : Nat → Bool), tr 0 = s ∧ K (tr rest.length) = some x ∧ ∀ (j : Nat) (o : Oper), rest[j]? = some o → Did E l o (tr j) (pv j) (ex j) (tr (j + 1))
 | [], i, s, _, h => ⟨fun _ => s, fun _ => default, fun _ => true, rfl, h, fun j o hj => by simp at hj⟩
 | o :: rest, i, s, hq, h => by
  simp only [List.all_cons, Bool.and_eq_true] at hq
  have hgo : ∀ s1, SameSt s s1 → (exOp E hd (i :: ctx) o.op s1 fun v s' => (s'.put o.dst v).bind fun s'' => exOps E hd ctx l (i + 1) rest s'' K) = some x →
    (match o.guard with | none => True | some (g, want) => ∃ t, (l[g]?).bind (·.dst) = some t ∧ ((∃ b, s.get t = .s (.b0 b) ∧ true = (b == want)) ∨ (s.get t = .tup [] ∧ true = false))) →
    ∃ pv s'', Did E l o s pv true s'' ∧ exOps E hd ctx l (i + 1) rest s'' K = some x := by
   intro s1 hs h1 hg
   obtain ⟨pv, new, h2, h3⟩ := exOp_par hq.1 hF h1
   obtain ⟨s'', h4, h5⟩ := bind_some' h2
   obtain ⟨p1, p2, p3, p4, p5⟩ := put_get h4
   refine ⟨pv, s'', ⟨?_, fun _ => ⟨s1, new, i :: ctx, hs, by rw [p4]; simp [hs.mem], h3⟩, (fun e => by cases e), fun t => ?_, by rw [p2]; exact hs.n, by rw [p3]; exact hs.low, fun d hd' => by rw [← hs.n]; exact p5 d hd', fun t y hy => ?_⟩, h5⟩
   ·cases hgd : o.guard with
    | none => rfl
    | some g => rw [hgd] at hg; exact hg
   ·rw [p1 t]
    split
    ·rfl
    ·exact hs.get t
   ·rcases put_keys h4 t y hy with h | ⟨z, hz⟩
    ·exact .inl (by rw [← hs.n]; exact h)
    ·exact hs.keys t z hz
  have hpass : ∀ s1, SameSt s s1 → ((s1.put o.dst (.tup [])).bind fun s'' => exOps E hd ctx l (i + 1) rest s'' K) = some x →
    (∃ g want t, o.guard = some (g, want) ∧ (l[g]?).bind (·.dst) = some t ∧ ((∃ b, s.get t = .s (.b0 b) ∧ false = (b == want)) ∨ (s.get t = .tup [] ∧ false = false))) →
    ∃ pv s'', Did E l o s pv false s'' ∧ exOps E hd ctx l (i + 1) rest s'' K = some x := by
   intro s1 hs h1 hg
   obtain ⟨s'', h4, h5⟩ := bind_some' h1
   obtain ⟨p1, p2, p3, p4, p5⟩ := put_get h4
   refine ⟨.tup [], s'', ⟨?_, (fun e => by cases e), fun _ => ⟨rfl, by rw [p4]; exact hs.mem⟩, fun t => ?_, by rw [p2]; exact hs.n, by rw [p3]; exact hs.low, fun d hd' => by rw [← hs.n]; exact p5 d hd', fun t y hy => ?_⟩, h5⟩
   ·obtain ⟨g, want, t, h6, h7⟩ := hg
    rw [h6]
    exact ⟨t, h7⟩
   ·rw [p1 t]
    split
    ·rfl
    ·exact hs.get t
   ·rcases put_keys h4 t y hy with h | ⟨z, hz⟩
    ·exact .inl (by rw [← hs.n]; exact h)
    ·exact hs.keys t z hz
  have hone : ∃ pv ex s'', Did E l o s pv ex s'' ∧ exOps E hd ctx l (i + 1) rest s'' K = some x := by
   simp only [exOps] at h
   split at h
   ·rename_i hg
    obtain ⟨pv, s'', h1, h2⟩ := hgo s ⟨fun _ => rfl, rfl, rfl, rfl, fun t y hy => .inr ⟨y, hy⟩⟩ h (by rw [hg]; trivial)
    exact ⟨pv, true, s'', h1, h2⟩
   ·rename_i g want hg
    split at h
    ·rename_i t ht
     split at h
     ·rename_i b hb
      cases b with
      | true =>
       simp only [cond_true] at h
       obtain ⟨s1, h1, h2⟩ := bind_some' h
       have hs := reput_same hb h1
       cases want with
       | true =>
        obtain ⟨pv, s'', h3, h4⟩ := hgo s1 hs h2 (by rw [hg]; exact ⟨t, ht, .inl ⟨true, hb, rfl⟩⟩)
        exact ⟨pv, true, s'', h3, h4⟩
       | false =>
        obtain ⟨pv, s'', h3, h4⟩ := hpass s1 hs h2 ⟨g, false, t, hg, ht, .inl ⟨true, hb, rfl⟩⟩
        exact ⟨pv, false, s'', h3, h4⟩
      | false =>
       simp only [cond_false] at h
       obtain ⟨s1, h1, h2⟩ := bind_some' h
       have hs := reput_same hb h1
       cases want with
       | true =>
        obtain ⟨pv, s'', h3, h4⟩ := hpass s1 hs h2 ⟨g, true, t, hg, ht, .inl ⟨false, hb, rfl⟩⟩
        exact ⟨pv, false, s'', h3, h4⟩
       | false =>
        obtain ⟨pv, s'', h3, h4⟩ := hgo s1 hs h2 (by rw [hg]; exact ⟨t, ht, .inl ⟨false, hb, rfl⟩⟩)
        exact ⟨pv, true, s'', h3, h4⟩
     ·rename_i hb
      obtain ⟨pv, s'', h3, h4⟩ := hpass s ⟨fun _ => rfl, rfl, rfl, rfl, fun t y hy => .inr ⟨y, hy⟩⟩ h ⟨g, want, t, hg, ht, .inr ⟨hb, rfl⟩⟩
      exact ⟨pv, false, s'', h3, h4⟩
     ·cases h
    ·cases h
  obtain ⟨pv0, ex0, s'', h1, h2⟩ := hone
  obtain ⟨tr, pv, ex, k1, k2, k3⟩ := trace_ok hF rest (i + 1) s'' hq.2 h2
  refine ⟨fun j => if j = 0 then s else tr (j - 1), fun j => if j = 0 then pv0 else pv (j - 1), fun j => if j = 0 then ex0 else ex (j - 1), rfl, by simpa using k2, fun j o' hj => ?_⟩
  cases j with
  | zero =>
   simp at hj
   subst hj
   simpa [k1] using h1
  | succ j =>
   have := k3 j o' (by simpa using hj)
   simpa using this
end trace
end Go.Sy
