/- The evaluator. -/
import Derived.Test.YtjmbhhinmbgneaaGreatSzTree
namespace Go.Sy
open Go.RowKit (Below)
section
variable {P : Program} {ops : Array Oper} {N : Act → World → Prop} {Q : Exit → Act → World → Prop}
theorem wp_then {o : Oper} {a : Act} {w : World} {K : Act → World → Prop} (hh : o.wp P a w K (Exit.then N Q)) : o.wp P a w K Q := by
 unfold Oper.wp at *
 generalize (execOp a.eval o).run P w = r at *
 cases r with
 | ok n w' =>
  cases n <;> simp only [Oper.upon] at hh ⊢ <;>
   first
    | exact hh
    | exact Calls.mono hh (fun e w'' he => by cases e <;> exact he)
 | halt x w' => cases x <;> simp only [Oper.upon] at hh ⊢ <;> exact hh
theorem wpOp_then {A : Array Oper} {i : Nat} {o : Oper} (hA : A[i]? = some o) (hO : ops[i]? = some o) {a : Act} {w : World} {K K' : Act → World → Prop}
  (hy : Region.wanted o (yielded A a.tmps) = Region.wanted o (yielded ops a.tmps)) (hK : ∀ a w, K a w → K' a w) (hh : wpOp P A (Exit.then N Q) i K a w) : wpOp P ops Q i K' a w := by
 unfold wpOp at *
 rw [hA] at hh
 rw [hO]
 simp only at hh ⊢
 rw [hy] at hh
 split
 ·rename_i hw
  rw [if_pos hw] at hh
  rcases hh with hh | ⟨h1, h2⟩
  ·exact .inl (wp_then (Oper.wp_mono hK hh))
  ·exact .inr ⟨h1, h2⟩
 ·rename_i hw
  rw [if_neg hw] at hh
  exact hK _ _ hh
def FirstK (n k : Nat) (listed : Array Bool) : Prop := listed.size = n ∧ ∀ i, i < n → listed.getD i false = decide (i < k)
theorem FirstK.tt {n k : Nat} {listed : Array Bool} (h : FirstK n k listed) {i : Nat} (hi : i < n) : listed.getD i true = decide (i < k) := by
 have := h.2 i hi
 have hs : i < listed.size := by rw [h.1]; exact hi
 simp [hs] at this ⊢
 exact this
theorem FirstK.next {n k : Nat} {listed : Array Bool} (h : FirstK n k listed) : FirstK n (k + 1) (listed.setIfInBounds k true) := by
 refine ⟨by simp [h.1], fun i hi => ?_⟩
 have hs : i < listed.size := by rw [h.1]; exact hi
 by_cases e : i = k
 ·subst e
  simp [hs]
 ·have := h.2 i hi
  rw [Go.getD_set_ne false (by omega), this]
  by_cases h2 : i < k
  ·simp [h2]; omega
  ·simp [h2]; omega
def Behind (ops : Array Oper) (k : Nat) : Prop := ∀ (j : Nat) (o : Oper), ops[j]? = some o → k ≤ j →
 (∀ e ∈ o.after, Region.binds .any e = true → e.on < j) ∧ ∀ i, i < j → bef ops j i = true
def Back (ops : Array Oper) : Prop := ∀ (j : Nat) (o : Oper), ops[j]? = some o → ∀ e ∈ o.after, Region.binds .any e = true → e.on < j
theorem bef_some {j k : Nat} (h : bef ops j k = true) : ∃ o, ops[j]? = some o := by
 rcases Nat.lt_or_ge j ops.size with hl | hl
 ·exact ⟨ops[j], by simp [hl]⟩
 ·exfalso
  have hs : (Region.before ops).size = ops.size := by rw [(befOk_all ops).1]; simp
  unfold bef at h
  rw [Array.getD_eq_getD_getElem?, Array.getElem?_eq_none (by omega)] at h
  simp at h
theorem bef_lt (hb : Back ops) : ∀ (j k : Nat), bef ops j k = true → k < j := by
 intro j
 induction j using Nat.strongRecOn with
 | _ j ih =>
  intro k h
  obtain ⟨o, ho⟩ := bef_some h
  obtain ⟨e, he, hbd, h1⟩ := bef_spec ho h
  have h2 := hb j o ho e he hbd
  rcases h1 with rfl | h1
  ·exact h2
  ·exact Nat.lt_trans (ih _ h2 k h1) h2
theorem any_seq {k : Nat} (hb : Back ops) (hB : Behind ops k) : ∀ (m j : Nat) (listed : Array Bool) (a : Act) (w : World) (fuel : Nat), j + m = ops.toList.length → k ≤ j → m ≤ fuel → FirstK ops.toList.length j listed →
  wpList P ops Q (ops.toList.drop j) a w → wpAny P .any ops Q fuel listed a w
 | 0, j, listed, a, w, fuel, hj, hk, hf, hL, h => by
  have hr : Region.ready .any ops listed = [] := by
   cases hq : Region.ready .any ops listed with
   | nil => rfl
   | cons i r =>
    exfalso
    have hi : i ∈ Region.ready .any ops listed := by rw [hq]; simp
    obtain ⟨hu, o, ho, _⟩ := mem_ready.1 hi
    have hil : i < ops.toList.length := by
     have := (Array.getElem?_eq_some_iff.1 ho).1
     simpa using this
    rw [hL.tt hil] at hu
    simp at hu
    omega
  rw [List.drop_eq_nil_of_le (by omega)] at h
  cases fuel with
  | zero => exact ⟨hr, h⟩
  | succ fuel => exact ⟨fun _ => h, fun i hi => by rw [hr] at hi; cases hi⟩
 | m + 1, j, listed, a, w, fuel, hj, hk, hf, hL, h => by
  have hjl : j < ops.toList.length := by omega
  have hoj : ops[j]? = some ops.toList[j] := by rw [← Array.getElem?_toList]; simp
  obtain ⟨b1, b2⟩ := hB j _ hoj hk
  have hready : j ∈ Region.ready .any ops listed := mem_ready.2 ⟨by rw [hL.tt hjl]; simp, _, hoj, fun e he hb => by
   have := b1 e he hb
   rw [hL.2 _ (by omega)]
   simp [this]⟩
  cases fuel with
  | zero => omega
  | succ fuel =>
   refine ⟨fun hr => (by rw [hr] at hready; cases hready), fun i hi => ?_⟩
   obtain ⟨hu, o, ho, hafter⟩ := mem_ready.1 hi
   have hil : i < ops.toList.length := by
    have := (Array.getElem?_eq_some_iff.1 ho).1
    simpa using this
   rw [hL.tt hil] at hu
   have hge : j ≤ i := by simpa using hu
   have hij : i = j := by
    rcases Nat.lt_or_ge j i with hlt | hle
    ·exfalso
     obtain ⟨e, he, hbd, h1⟩ := bef_spec ho ((hB i o ho (by omega)).2 j hlt)
     have h2 := hafter e he hbd
     have h3 := hb i o ho e he hbd
     rw [hL.2 e.on (by omega)] at h2
     have h4 : e.on < j := by simpa using h2
     rcases h1 with h1 | h1
     ·omega
     ·have := bef_lt hb _ _ h1
      omega
    ·omega
   subst hij
   rw [hoj] at ho
   cases ho
   rw [List.drop_eq_getElem_cons hjl] at h
   unfold wpList at h
   have hn := fun a w h => any_seq hb hB m (i + 1) (listed.setIfInBounds i true) a w fuel (by omega) (by omega) (by omega) hL.next h
   unfold wpOp
   rw [hoj]
   simp only
   split
   ·rename_i hw
    rw [if_pos hw] at h
    exact h.imp (Oper.wp_mono hn) id
   ·rename_i hw
    rw [if_neg hw] at h
    exact hn _ _ h
theorem take_get {k : Nat} {i : Nat} (hi : i < k) : (ops.toList.take k).toArray[i]? = ops[i]? := by
 rw [← Array.getElem?_toList, ← Array.getElem?_toList (xs := ops)]
 simp [hi]
theorem any_transfer {k : Nat} (hk : k ≤ ops.toList.length) (hb : Back ops) (hB : Behind ops k) (hedge : ∀ (i : Nat) (o : Oper), i < k → ops[i]? = some o → ∀ e ∈ o.after, Region.binds .any e = true → e.on < i)
  (hguard : ∀ (i : Nat) (o : Oper), i < k → ops[i]? = some o → ∀ g want, o.guard = some (g, want) → g < k)
  (hN : ∀ (fuel : Nat) (listed : Array Bool) (a : Act) (w : World), ops.toList.length - k ≤ fuel → FirstK ops.toList.length k listed → N a w → wpAny P .any ops Q fuel listed a w) :
  ∀ (fuel : Nat) (la lo : Array Bool) (a : Act) (w : World), la.size = k → lo.size = ops.toList.length → (∀ i, i < k → lo.getD i false = la.getD i false) → (∀ i, k ≤ i → i < ops.toList.length → lo.getD i false = false) →
   (∀ i q, lo.getD i false = true → bef ops i q = true → lo.getD q false = true) →
   wpAny P .any (ops.toList.take k).toArray (Exit.then N Q) fuel la a w → wpAny P .any ops Q (fuel + (ops.toList.length - k)) lo a w := by
 have htt : ∀ (l : Array Bool) (i : Nat), i < l.size → l.getD i true = l.getD i false := by
  intro l i hi
  simp [hi]
 have hsz : (ops.toList.take k).toArray.size = k := by
  have : ops.toList.length = ops.size := by simp
  simp
  omega
 have hall : ∀ la : Array Bool, la.size = k → Region.ready .any (ops.toList.take k).toArray la = [] → ∀ i, i < k → la.getD i false = true := by
  intro la hla hr i
  induction i using Nat.strongRecOn with
  | _ i ih =>
   intro hi
   cases hq : la.getD i false with
   | true => rfl
   | false =>
    exfalso
    have hoi : ops[i]? = some (ops.toList[i]'(by omega)) := by rw [← Array.getElem?_toList]; simp
    have : i ∈ Region.ready .any (ops.toList.take k).toArray la := mem_ready.2 ⟨by rw [htt la i (by omega)]; exact hq, _, (take_get hi).trans hoi, fun e he hb => by
     have h1 := hedge i _ hi hoi e he hb
     exact ih e.on h1 (by omega)⟩
    rw [hr] at this
    cases this
 have hfirst : ∀ (la lo : Array Bool), la.size = k → lo.size = ops.toList.length → (∀ i, i < k → lo.getD i false = la.getD i false) → (∀ i, k ≤ i → i < ops.toList.length → lo.getD i false = false) →
   Region.ready .any (ops.toList.take k).toArray la = [] → FirstK ops.toList.length k lo := by
  intro la lo h1 h2 h3 h4 hr
  refine ⟨h2, fun i hi => ?_⟩
  by_cases hik : i < k
  ·rw [h3 i hik, hall la h1 hr i hik]; simp [hik]
  ·rw [h4 i (by omega) hi]; simp [hik]
 intro fuel
 induction fuel with
 | zero =>
  intro la lo a w h1 h2 h3 h4 _ h
  exact hN _ lo a w (by omega) (hfirst la lo h1 h2 h3 h4 h.1) h.2
 | succ fuel ih =>
  intro la lo a w h1 h2 h3 h4 hcl h
  cases hr : Region.ready .any (ops.toList.take k).toArray la with
  | nil => exact hN _ lo a w (by omega) (hfirst la lo h1 h2 h3 h4 hr) (h.1 hr)
  | cons i0 r0 =>
   have hi0 : i0 ∈ Region.ready .any (ops.toList.take k).toArray la := by rw [hr]; simp
   obtain ⟨hu0, o0, ho0, _⟩ := mem_ready.1 hi0
   have hi0k : i0 < k := by
    have := (Array.getElem?_eq_some_iff.1 ho0).1
    rwa [hsz] at this
   have hu0' : la.getD i0 false = false := by rw [← htt la i0 (by omega)]; exact hu0
   have hlow : ∀ i, i ∈ Region.ready .any ops lo → i < k := by
    intro i hi
    obtain ⟨hu, o, ho, hafter⟩ := mem_ready.1 hi
    rcases Nat.lt_or_ge i k with hlt | hge
    ·exact hlt
    ·exfalso
     obtain ⟨e, he, hbd, h1⟩ := bef_spec ho ((hB i o ho hge).2 i0 (by omega))
     have h2 := hafter e he hbd
     have h5 : lo.getD i0 false = true := by
      rcases h1 with h1 | h1
      ·rw [← h1]; exact h2
      ·exact hcl _ _ h2 h1
     rw [h3 i0 hi0k, hu0'] at h5
     cases h5
   have hin : ∀ i, i ∈ Region.ready .any ops lo → i ∈ Region.ready .any (ops.toList.take k).toArray la := by
    intro i hi
    have hik := hlow i hi
    obtain ⟨hu, o, ho, hafter⟩ := mem_ready.1 hi
    refine mem_ready.2 ⟨?_, o, (take_get hik).trans ho, fun e he hb => ?_⟩
    ·rw [htt la i (by omega), ← h3 i hik, ← htt lo i (by omega)]; exact hu
    ·have := hedge i o hik ho e he hb
     rw [← h3 e.on (by omega)]
     exact hafter e he hb
   have hout : i0 ∈ Region.ready .any ops lo := mem_ready.2 ⟨by rw [htt lo i0 (by omega), h3 i0 hi0k]; exact hu0', o0, (take_get hi0k).symm.trans ho0, fun e he hb => by
    have ho0' := (take_get (ops := ops) hi0k).symm.trans ho0
    have := hedge i0 o0 hi0k ho0' e he hb
    rw [h3 e.on (by omega)]
    exact (mem_ready.1 hi0).2.elim fun o' h' => by
     have : o' = o0 := by
      have := h'.1
      rw [ho0] at this
      exact (Option.some.inj this).symm
     subst this
     exact h'.2 e he hb⟩
   rw [show fuel + 1 + (ops.toList.length - k) = (fuel + (ops.toList.length - k)) + 1 by omega]
   refine ⟨fun hr' => (by rw [hr'] at hout; cases hout), fun i hi => ?_⟩
   have hik := hlow i hi
   obtain ⟨hu, o, ho, hafter⟩ := mem_ready.1 hi
   refine wpOp_then (A := (ops.toList.take k).toArray) ((take_get hik).trans ho) ho ?_ (fun a' w' h' => ih (la.setIfInBounds i true) (lo.setIfInBounds i true) a' w' (by simp [h1]) (by simp [h2]) ?_ ?_ ?_ h') (h.2 i (hin i hi))
   ·unfold Region.wanted
    cases hg : o.guard with
    | none => rfl
    | some gw =>
     obtain ⟨g, want⟩ := gw
     have hgk := hguard i o hik ho g want hg
     simp only
     unfold yielded
     rw [take_get hgk]
   ·intro q hq
    by_cases e : q = i
    ·subst e
     have hq1 : q < la.size := by omega
     have hq2 : q < lo.size := by omega
     simp [hq1, hq2]
    ·rw [Go.getD_set_ne false (by omega), Go.getD_set_ne false (by omega)]
     exact h3 q hq
   ·intro q hq hql
    rw [Go.getD_set_ne false (by omega)]
    exact h4 q hq hql
   ·intro p q hp hpq
    by_cases e : p = i
    ·subst e
     obtain ⟨e, he, hbd, h1⟩ := bef_spec ho hpq
     have h2 := hafter e he hbd
     rcases h1 with h1 | h1
     ·rw [← h1]; exact getD_set_true h2
     ·exact getD_set_true (hcl _ _ h2 h1)
    ·rw [Go.getD_set_ne false (fun h => e h.symm)] at hp
     exact getD_set_true (hcl _ _ hp hpq)
end
section
variable {β : Type} {E : Env} {hd : Hd β} {ctx : List Nat}
theorem exOps_append {l : List Oper} {l2 : List Oper} {K : St → Option β} : ∀ (l1 : List Oper) (i : Nat) (s : St),
  exOps E hd ctx l i (l1 ++ l2) s K = exOps E hd ctx l i l1 s fun s' => exOps E hd ctx l (i + l1.length) l2 s' K
 | [], i, s => rfl
 | o :: r, i, s => by
  have ih := fun s => exOps_append (l := l) (l2 := l2) (K := K) r (i + 1) s
  have hl : i + (o :: r).length = i + 1 + r.length := by simp; omega
  simp only [List.cons_append, exOps, ih, hl]
theorem exOps_ops {l l' : List Oper} {K : St → Option β} : ∀ (rest : List Oper) (i : Nat) (s : St), (∀ o ∈ rest, ∀ g want, o.guard = some (g, want) → l[g]? = l'[g]?) →
  exOps E hd ctx l i rest s K = exOps E hd ctx l' i rest s K
 | [], _, _, _ => rfl
 | o :: r, i, s, h => by
  have ih := fun s => exOps_ops (l := l) (l' := l') (K := K) r (i + 1) s (fun o' ho' => h o' (by simp [ho']))
  simp only [exOps, ih]
  cases hg : o.guard with
  | none => rfl
  | some gw =>
   obtain ⟨g, want⟩ := gw
   have := h o (by simp) g want hg
   simp only [this]
end
theorem quietLen_all {E : Env} : ∀ (l : List Oper), (l.take (quietLen E l)).all (quietOp E) = true
 | [] => rfl
 | o :: r => by
  simp only [quietLen]
  cases hq : quietOp E o with
  | true =>
   simp only [cond_true, List.take_succ_cons, List.all_cons, hq, Bool.true_and]
   exact quietLen_all r
  | false => simp
theorem draw_ok {P : Program} {E : Env} (hm : P.follows .mixedOrders = true) (hE : EnvT P E) : DrawOk P E := by
 intro β hd hH x base w0 lows Q ctx id ops K s J a w h hS hQ
 refine wp_region_any hm ?_
 have key : ∀ k, tailOk k ops = true → tempsOk (ops.toList.take k).toArray = true →
   (∀ Q0 : Exit → Act → World → Prop, (∀ s' J' a' w', (exOps E hd ctx ops.toList (0 + (ops.toList.take k).length) (ops.toList.drop k) s' K) = some x → RelS base w0 J' s' a'.tmps lows w' → a'.defers = a.defers → Q0 .normal a' w') →
    wpAny P .any (ops.toList.take k).toArray Q0 (ops.toList.take k).toArray.size (Array.replicate (ops.toList.take k).toArray.size false) a { w with drawn := w.drawn + 1 }) →
   wpAny P .any ops Q ops.size (Array.replicate ops.size false) a { w with drawn := w.drawn + 1 } := by
  intro k hB hok hany
  unfold tailOk at hB
  simp only [Bool.and_eq_true] at hB
  obtain ⟨⟨hk, hg⟩, hb⟩ := hB
  have hk := nat_ble hk
  have hsz : ops.toList.length = ops.size := by simp
  have hguard : ∀ o ∈ ops.toList.take k, ∀ g want, o.guard = some (g, want) → g < k := by
   intro o ho g want hgd
   have := List.all_eq_true.1 hg o ho
   rw [hgd] at this
   simpa [Nat.blt_eq] using this
  have hmem : ∀ (i : Nat) (o : Oper), i < k → ops[i]? = some o → o ∈ ops.toList.take k := by
   intro i o hi ho
   have h1 : (ops.toList.take k)[i]? = some o := by
    rw [List.getElem?_take, if_pos hi, Array.getElem?_toList]
    exact ho
   exact List.mem_of_getElem? h1
  have hBeh : Behind ops k := by
   intro j o ho hkj
   have hjl : j < ops.size := (Array.getElem?_eq_some_iff.1 ho).1
   have := List.all_eq_true.1 hb j (by rw [List.mem_range'_1]; omega)
   rw [Array.getElem?_toList, ho] at this
   simp only [Bool.and_eq_true, List.all_eq_true, Bool.or_eq_true, Bool.not_eq_true', List.mem_range] at this
   refine ⟨fun e he hbd => ?_, fun i hi => this.2 i hi⟩
   rcases this.1 e (by simpa using he) with h1 | h1
   ·rw [hbd] at h1; cases h1
   ·simpa [Nat.blt_eq] using h1
  have hedge : ∀ (i : Nat) (o : Oper), i < k → ops[i]? = some o → ∀ e ∈ o.after, Region.binds .any e = true → e.on < i := by
   intro i o hi ho
   exact (tempsOk_spec hok ((take_get hi).trans ho)).1
  have hback : Back ops := by
   intro j o ho
   rcases Nat.lt_or_ge j k with hlt | hge
   ·exact hedge j o hlt ho
   ·exact (hBeh j o ho hge).1
  have hfalse : ∀ i, (Array.replicate ops.size false).getD i false = false := by
   intro i
   rcases Nat.lt_or_ge i ops.size with h | h <;> simp [h]
  have hA := hany (Exit.then (fun a w => wpList P ops Q (ops.toList.drop k) a w) Q)
   (fun s' J' a' w' hk' hS' hd' => ops_sound (Q := Q) hE hH (fun s2 J2 a2 w2 h2 hS2 hd2 => hQ s2 J2 a2 w2 h2 hS2 (hd2.trans hd')) (ops.toList.drop k) _ s' J' a' w' hk' hS' rfl)
  have hszA : (ops.toList.take k).toArray.size = k := by simp; omega
  have hT := any_transfer (Q := Q) hk hback hBeh hedge (fun i o hi ho => hguard o (hmem i o hi ho))
   (fun fuel listed a w hf hF hN => any_seq hback hBeh (ops.toList.length - k) k listed a w fuel (by omega) (Nat.le_refl _) hf hF hN)
   (ops.toList.take k).toArray.size (Array.replicate (ops.toList.take k).toArray.size false) (Array.replicate ops.size false) a { w with drawn := w.drawn + 1 }
   (by simp; omega) (by simp) (fun i hi => by simp [hszA, hi, show i < ops.size by omega]) (fun i hi hil => by simp [show i < ops.size by omega]) (fun i q hi => by rw [hfalse] at hi; cases hi) hA
  have e : (ops.toList.take k).toArray.size + (ops.toList.length - k) = ops.size := by rw [hszA]; omega
  rw [e] at hT
  exact hT
 have hsplit : ∀ k, ops.toList = ops.toList.take k ++ ops.toList.drop k := fun k => (List.take_append_drop k ops.toList).symm
 have hguards : ∀ k, tailOk k ops = true → ∀ o ∈ ops.toList.take k, ∀ g want, o.guard = some (g, want) → (ops.toList.take k)[g]? = ops.toList[g]? := by
  intro k hB o ho g want hgd
  unfold tailOk at hB
  simp only [Bool.and_eq_true] at hB
  have := List.all_eq_true.1 hB.1.2 o ho
  rw [hgd] at this
  have hlt : g < k := by simpa [Nat.blt_eq] using this
  rw [List.getElem?_take, if_pos hlt]
 unfold exDraw at h
 cases hd1 : drawB E ops with
 | true =>
  rw [hd1] at h
  simp only [cond_true] at h
  unfold drawB at hd1
  rw [Bool.or_eq_true] at hd1
  rcases hd1 with hB | hB
  ·rw [Bool.and_eq_true] at hB
   exact any_ok hE hB.1 hB.2 h hS hQ
  ·have hqa := quietLen_all (E := E) ops.toList
   generalize quietLen E ops.toList = k at hB hqa
   unfold splitOk at hB
   rw [Bool.and_eq_true] at hB
   refine key k hB.2 hB.1 fun Q0 hQ0 => any_ok (Q := Q0) hE (ops := (ops.toList.take k).toArray) (by simpa using hqa) hB.1 (K := fun s' => exOps E hd ctx ops.toList (0 + (ops.toList.take k).length) (ops.toList.drop k) s' K) (ctx := ctx) (hd := hd) ?_ hS hQ0
   rw [List.toList_toArray]
   rw [exOps_ops (l := ops.toList.take k) (l' := ops.toList) _ _ _ (hguards k hB.2)]
   rw [← exOps_append]
   rw [← hsplit k]
   exact h
 | false =>
  rw [hd1] at h
  simp only [cond_false] at h
  cases hB : mixOk E (mixLen E ops.toList) ops with
  | false =>
   rw [hB] at h
   simp only [cond_false] at h
   obtain ⟨hsel, h⟩ := cond_some h
   exact tree_ok hE hH hsel h hS hQ
  | true =>
  rw [hB] at h
  simp only [cond_true] at h
  generalize mixLen E ops.toList = k at hB h
  unfold mixOk at hB
  rw [Bool.and_eq_true] at hB
  have hle : k ≤ ops.toList.length := by
   have := hB.2
   unfold tailOk at this
   simp only [Bool.and_eq_true] at this
   exact nat_ble this.1.1
  refine key k hB.2 (mixFront_spec hB.1).2.1 fun Q0 hQ0 => mix_ok (Q := Q0) hE (ops := (ops.toList.take k).toArray) hB.1 (K := fun s' => exOps E hd ctx ops.toList (0 + (ops.toList.take k).length) (ops.toList.drop k) s' K) (ctx := ctx) (hd := hd) ?_ hS hQ0
  rw [List.toList_toArray]
  rw [exOps_ops (l := ops.toList.take k) (l' := ops.toList) _ _ _ (hguards k hB.2)]
  rw [show 0 + (ops.toList.take k).length = k by rw [List.length_take]; omega]
  exact h
end Go.Sy
