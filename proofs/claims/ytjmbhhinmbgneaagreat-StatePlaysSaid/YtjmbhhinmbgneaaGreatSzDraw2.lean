/- The evaluator. -/
import Derived.Test.YtjmbhhinmbgneaaGreatSzDraw
namespace Go.Sy
open Go.RowKit (Below)
def Jr (J : Inj) (m : Nat) : Inj := fun b => if b < m then J b else none
theorem Jr_some {J : Inj} {m b : Nat} {bb : BB} (h : Jr J m b = some bb) : b < m ∧ J b = some bb := by
 unfold Jr at h
 split at h
 ·rename_i hl; exact ⟨hl, h⟩
 ·cases h
theorem Jr_mono {J : Inj} {m m' : Nat} (h : m ≤ m') : Inj.le (Jr J m) (Jr J m') := by
 intro b bb hb
 obtain ⟨h1, h2⟩ := Jr_some hb
 unfold Jr
 rw [if_pos (by omega)]
 exact h2
theorem Jr_le {J J' : Inj} {m : Nat} (h : ∀ b bb, b < m → J b = some bb → J' b = some bb) : Inj.le (Jr J m) (Jr J' m) := by
 intro b bb hb
 obtain ⟨h1, h2⟩ := Jr_some hb
 unfold Jr
 rw [if_pos h1]
 exact h b bb h1 h2
theorem last_of (p : Nat → Prop) : ∀ j, (∃ i, i < j ∧ p i) → ∃ i, i < j ∧ p i ∧ ∀ i', i < i' → i' < j → ¬ p i'
 | 0, ⟨i, h, _⟩ => by omega
 | j + 1, ⟨i, h, hp⟩ => by
  by_cases hj : p j
  ·exact ⟨j, by omega, hj, fun i' h1 h2 => by omega⟩
  ·have hij : i ≠ j := fun e => hj (e ▸ hp)
   obtain ⟨i, h1, h2, h3⟩ := last_of p j ⟨i, by omega, hp⟩
   exact ⟨i, by omega, h2, fun i' h4 h5 => by
    by_cases e : i' = j
    ·subst e; exact hj
    ·exact h3 i' h4 (by omega)⟩
def cnt (listed : Array Bool) : Nat → Nat
 | 0 => 0
 | k + 1 => cnt listed k + (bif listed.getD k true then 0 else 1)
theorem cnt_set_ge {listed : Array Bool} {i : Nat} : ∀ k, k ≤ i → cnt (listed.setIfInBounds i true) k = cnt listed k
 | 0, _ => rfl
 | k + 1, h => by
  simp only [cnt]
  rw [cnt_set_ge k (by omega), Go.getD_set_ne true (by omega)]
theorem cnt_set {listed : Array Bool} {i : Nat} (hs : i < listed.size) (hu : listed.getD i true = false) : ∀ k, i < k → cnt (listed.setIfInBounds i true) k + 1 = cnt listed k
 | 0, h => by omega
 | k + 1, h => by
  simp only [cnt]
  by_cases e : i = k
  ·subst e
   rw [cnt_set_ge i (Nat.le_refl _), hu]
   have : (listed.setIfInBounds i true).getD i true = true := by simp
   rw [this]
   rfl
  ·rw [Go.getD_set_ne true e, ← cnt_set hs hu k (by omega)]
   omega
theorem cnt_zero {listed : Array Bool} : ∀ k, cnt listed k = 0 → ∀ i, i < k → listed.getD i true = true
 | 0, _, i, h => by omega
 | k + 1, hc, i, h => by
  simp only [cnt] at hc
  by_cases e : i = k
  ·subst e
   cases hq : listed.getD i true with
   | true => rfl
   | false => rw [hq] at hc; simp at hc
  ·exact cnt_zero k (by omega) i (by omega)
section
variable {E : Env} {ops : Array Oper} {tr : Nat → St} {pv : Nat → PV} {ex : Nat → Bool}
def Tr (E : Env) (ops : Array Oper) (tr : Nat → St) (pv : Nat → PV) (ex : Nat → Bool) : Prop :=
 ∀ (j : Nat) (o : Oper), ops.toList[j]? = some o → Did E ops.toList o (tr j) (pv j) (ex j) (tr (j + 1))
theorem tr_mem (h : Tr E ops tr pv ex) : ∀ (d j : Nat), j + d ≤ ops.toList.length → (∀ b, b < (tr j).mem.length → (tr (j + d)).mem[b]? = (tr j).mem[b]?) ∧ (tr j).mem.length ≤ (tr (j + d)).mem.length
 | 0, j, _ => ⟨fun _ _ => rfl, Nat.le_refl _⟩
 | d + 1, j, hd => by
  obtain ⟨h1, h2⟩ := tr_mem h d j (by omega)
  have hlt : j + d < ops.toList.length := by omega
  have hD := h (j + d) ops.toList[j + d] (by simp)
  have hstep : ∃ new, (tr (j + d + 1)).mem = (tr (j + d)).mem ++ new := by
   cases he : ex (j + d) with
   | true => obtain ⟨s1, new, c, _, hm, _⟩ := hD.run he; exact ⟨new, hm⟩
   | false => exact ⟨[], by simp [(hD.pass he).2]⟩
  obtain ⟨new, hn⟩ := hstep
  refine ⟨fun b hb => ?_, ?_⟩
  ·rw [show j + (d + 1) = j + d + 1 by omega, hn, List.getElem?_append_left (by omega)]
   exact h1 b hb
  ·rw [show j + (d + 1) = j + d + 1 by omega, hn]
   simp
   omega
theorem tr_le (h : Tr E ops tr pv ex) {j k : Nat} (hjk : j ≤ k) (hk : k ≤ ops.toList.length) : (tr j).mem.length ≤ (tr k).mem.length := by
 have := (tr_mem h (k - j) j (by omega)).2
 rwa [show j + (k - j) = k by omega] at this
theorem tr_pre (h : Tr E ops tr pv ex) {j k : Nat} (hjk : j ≤ k) (hk : k ≤ ops.toList.length) {b : Nat} (hb : b < (tr j).mem.length) : (tr k).mem[b]? = (tr j).mem[b]? := by
 have := (tr_mem h (k - j) j (by omega)).1 b hb
 rwa [show j + (k - j) = k by omega] at this
theorem tr_n (h : Tr E ops tr pv ex) : ∀ j, j ≤ ops.toList.length → (tr j).fr.n = (tr 0).fr.n ∧ (tr j).low = (tr 0).low
 | 0, _ => ⟨rfl, rfl⟩
 | j + 1, hj => by
  obtain ⟨h1, h2⟩ := tr_n h j (by omega)
  have hD := h j ops.toList[j] (List.getElem?_eq_getElem (by omega))
  exact ⟨hD.n.trans h1, hD.low.trans h2⟩
theorem tr_keys (h : Tr E ops tr pv ex) (h0 : ∀ t y, lookN t (tr 0).fr.sl = some y → t < (tr 0).fr.n) : ∀ j, j ≤ ops.toList.length → ∀ t y, lookN t (tr j).fr.sl = some y → t < (tr 0).fr.n
 | 0, _ => h0
 | j + 1, hj => by
  intro t y hy
  have hD := h j ops.toList[j] (List.getElem?_eq_getElem (by omega))
  rcases hD.keys t y hy with h1 | ⟨z, hz⟩
  ·rw [(tr_n h j (by omega)).1] at h1; exact h1
  ·exact tr_keys h h0 j (by omega) t z hz
theorem tr_none (h : Tr E ops tr pv ex) {t : Nat} : ∀ j, j ≤ ops.toList.length → (∀ i o, i < j → ops.toList[i]? = some o → o.dst ≠ some t) → (tr j).get t = (tr 0).get t
 | 0, _, _ => rfl
 | j + 1, hj, hn => by
  have hlt : j < ops.toList.length := by omega
  have hD := h j ops.toList[j] (by simp)
  rw [hD.get t, if_neg (hn j ops.toList[j] (by omega) (by simp))]
  exact tr_none h j (by omega) (fun i o hi ho => hn i o (by omega) ho)
theorem tr_some (h : Tr E ops tr pv ex) {t i : Nat} {oi : Oper} (hi : ops.toList[i]? = some oi) (hd : oi.dst = some t) : ∀ j, i < j → j ≤ ops.toList.length →
  (∀ i' o', i < i' → i' < j → ops.toList[i']? = some o' → o'.dst ≠ some t) → (tr j).get t = pv i
 | 0, h1, _, _ => by omega
 | j + 1, h1, hj, hn => by
  have hlt : j < ops.toList.length := by omega
  have hD := h j ops.toList[j] (by simp)
  rw [hD.get t]
  by_cases e : i = j
  ·subst e
   have : ops.toList[i] = oi := by
    have := (List.getElem?_eq_some_iff.1 hi).2
    exact this
   rw [this, if_pos hd]
  ·rw [if_neg (hn j ops.toList[j] (by omega) (by omega) (by simp))]
   exact tr_some h hi hd j (by omega) (by omega) (fun i' o' h2 h3 => hn i' o' h2 (by omega))
structure DInv (ops : Array Oper) (tr : Nat → St) (pv : Nat → PV) (base : Nat) (w0 : World) (lows : List (Array Value)) (ds : List Deferred) (listed : Array Bool) (J : Inj) (a : Act) (w : World) : Prop where
 size : listed.size = ops.toList.length
 closed : ∀ i k, listed.getD i false = true → bef ops i k = true → listed.getD k false = true
 mem : ∀ k, k ≤ ops.toList.length → RelM base (Jr J (tr k).mem.length) (tr k).mem w
 fresh : ∀ b bb, J b = some bb → b < (tr 0).mem.length ∨ ∃ i, i < ops.toList.length ∧ listed.getD i false = true ∧ (tr i).mem.length ≤ b ∧ b < (tr (i + 1)).mem.length
 tsize : a.tmps.size = (tr 0).fr.n
 last : ∀ t i o, ops.toList[i]? = some o → o.dst = some t → listed.getD i false = true →
  (∀ i' o', ops.toList[i']? = some o' → o'.dst = some t → listed.getD i' false = true → i' ≤ i) → RelP (Jr J (tr (i + 1)).mem.length) (pv i) (a.tmps.getD t undef)
 none : ∀ t, (∀ i o, ops.toList[i]? = some o → o.dst = some t → listed.getD i false = false) → RelP (Jr J (tr 0).mem.length) ((tr 0).get t) (a.tmps.getD t undef)
 low : RelLow (Jr J (tr 0).mem.length) (tr 0).low lows
 below : Below base w0 w
 base : base ≤ w.heap.size
 defers : a.defers = ds
variable {base : Nat} {w0 : World} {lows : List (Array Value)} {ds : List Deferred} {listed : Array Bool} {J : Inj} {a : Act} {w : World}
theorem getD_tf {listed : Array Bool} {i : Nat} (h : listed.getD i false = true) : listed.getD i true = true := by
 rcases Nat.lt_or_ge i listed.size with hl | hl
 ·simp [hl] at h ⊢; exact h
 ·simp [Array.getElem?_eq_none hl] at h
theorem getD_ft {listed : Array Bool} {i : Nat} (h : listed.getD i true = false) : listed.getD i false = false := by
 cases hq : listed.getD i false with
 | false => rfl
 | true => rw [getD_tf hq] at h; cases h
theorem names_ok (hok : tempsOk ops = true) (hT : Tr E ops tr pv ex) (hI : DInv ops tr pv base w0 lows ds listed J a w) {j : Nat} {o : Oper} (ho : ops[j]? = some o) (hu : listed.getD j true = false)
  (hr : ∀ e ∈ o.after, Region.binds .any e = true → listed.getD e.on false = true) {t : Nat} (ht : t ∈ opTmps ops.toList o) :
  RelP (Jr J (tr j).mem.length) ((tr j).get t) (a.tmps.getD t undef) ∧ (∀ i oi, ops.toList[i]? = some oi → oi.dst = some t → i ≠ j → (listed.getD i false = true ↔ i < j)) := by
 obtain ⟨_, hspec⟩ := tempsOk_spec hok ho
 have hju := getD_ft hu
 have hjl : j < ops.toList.length := by
  have := (Array.getElem?_eq_some_iff.1 ho).1
  simpa using this
 have hbef : ∀ k, bef ops j k = true → listed.getD k false = true := by
  intro k hk
  obtain ⟨e, he, hb, h1⟩ := bef_spec ho hk
  have h2 := hr e he hb
  rcases h1 with rfl | h1
  ·exact h2
  ·exact hI.closed _ _ h2 h1
 have hiff : ∀ i oi, ops.toList[i]? = some oi → oi.dst = some t → i ≠ j → (listed.getD i false = true ↔ i < j) := by
  intro i oi hi hd hne
  obtain ⟨k1, k2⟩ := hspec i oi t (by rw [← Array.getElem?_toList]; exact hi) hd hne ht
  constructor
  ·intro hli
   rcases Nat.lt_or_ge i j with h | h
   ·exact h
   ·have := hI.closed i j hli (k2 (by omega))
    rw [hju] at this
    cases this
  ·intro hlt
   exact hbef i (k1 hlt)
 refine ⟨?_, hiff⟩
 by_cases hw : ∃ i, i < j ∧ ∃ oi, ops.toList[i]? = some oi ∧ oi.dst = some t
 ·obtain ⟨i, hij, ⟨oi, hoi, hd⟩, hmax⟩ := last_of (fun i => ∃ oi, ops.toList[i]? = some oi ∧ oi.dst = some t) j hw
  have hl := (hiff i oi hoi hd (by omega)).2 hij
  have hrel := hI.last t i oi hoi hd hl (fun i' o' ho' hd' hl' => by
   by_cases e : i' = j
   ·subst e; rw [hju] at hl'; cases hl'
   ·have := (hiff i' o' ho' hd' e).1 hl'
    rcases Nat.lt_or_ge i i' with h | h
    ·exact absurd ⟨o', ho', hd'⟩ (hmax i' h this)
    ·exact h)
  rw [tr_some hT hoi hd j hij (by omega) (fun i' o' h1 h2 h3 h4 => hmax i' h1 h2 ⟨o', h3, h4⟩)]
  exact hrel.mono (Jr_mono (tr_le hT (by omega) (by omega)))
 ·have hn := hI.none t (fun i oi hi hd => by
   by_cases e : i = j
   ·subst e; exact hju
   ·cases hq : listed.getD i false with
    | false => rfl
    | true => exact absurd ⟨i, (hiff i oi hi hd e).1 hq, oi, hi, hd⟩ hw)
  rw [tr_none hT j (by omega) (fun i oi hi ho' hd => hw ⟨i, hi, oi, ho', hd⟩)]
  exact hn.mono (Jr_mono (tr_le hT (Nat.zero_le _) (by omega)))
theorem opTmps_operand {l : List Oper} {o : Oper} {t : Nat} (h : Operand.tmp t ∈ o.op.operands) : t ∈ opTmps l o := by
 unfold opTmps
 simp only [List.mem_append, List.mem_filterMap]
 exact .inl (.inr ⟨.tmp t, by simpa using h, rfl⟩)
theorem opTmps_dst {l : List Oper} {o : Oper} {t : Nat} (h : o.dst = some t) : t ∈ opTmps l o := by
 unfold opTmps
 simp [h]
theorem opTmps_guard {l : List Oper} {o : Oper} {g t : Nat} {want : Bool} (h : o.guard = some (g, want)) (hd : (l[g]?).bind (·.dst) = some t) : t ∈ opTmps l o := by
 unfold opTmps
 simp [h, hd]
theorem put_getD {a : Act} {d : Option Tmp} {v : Value} (hd : ∀ t, d = some t → t < a.tmps.size) (t : Nat) : (a.put d v).tmps.getD t undef = if d = some t then v else a.tmps.getD t undef := by
 cases d with
 | none => simp [Act.put]
 | some d =>
  have hlt := hd d rfl
  by_cases e : d = t
  ·subst e
   simp [Act.put, hlt]
  ·have e' : ¬ (some d = some t) := fun h => e (by injection h)
   rw [if_neg e']
   simp only [Act.put, Array.getD_eq_getD_getElem?]
   rw [Array.getElem?_setIfInBounds_ne e]
theorem inv_step (hok : tempsOk ops = true) (hT : Tr E ops tr pv ex) (hI : DInv ops tr pv base w0 lows ds listed J a w) {j : Nat} {o : Oper} (ho : ops[j]? = some o) (hu : listed.getD j true = false)
  (hr : ∀ e ∈ o.after, Region.binds .any e = true → listed.getD e.on false = true) {J' : Inj} {w' : World} {v : Value}
  (hext : Ext (Jr J (tr j).mem.length) J' (tr j).mem.length w) (hm : RelM base J' (tr (j + 1)).mem w') (hb : Below w.heap.size w w') (hv : RelP J' (pv j) v) :
  ∃ J2, DInv ops tr pv base w0 lows ds (listed.setIfInBounds j true) J2 (a.put o.dst v) w' := by
 have hjl : j < ops.toList.length := by
  have := (Array.getElem?_eq_some_iff.1 ho).1
  simpa using this
 have hoj : ops.toList[j]? = some o := by rw [Array.getElem?_toList]; exact ho
 have hD := hT j o hoj
 have hju := getD_ft hu
 have hsz : j < listed.size := by rw [hI.size]; exact hjl
 have hlen1 := tr_le hT (Nat.le_succ j) hjl
 let J2 : Inj := fun b => if (tr j).mem.length ≤ b ∧ b < (tr (j + 1)).mem.length then J' b else J b
 have hfree : ∀ b, (tr j).mem.length ≤ b → b < (tr (j + 1)).mem.length → J b = none := by
  intro b h1 h2
  cases hq : J b with
  | none => rfl
  | some bb =>
   exfalso
   rcases hI.fresh b bb hq with h3 | ⟨i, hil, hli, h4, h5⟩
   ·have := tr_le hT (Nat.zero_le j) (by omega); omega
   ·by_cases e : i = j
    ·subst e; rw [hju] at hli; cases hli
    ·rcases Nat.lt_or_ge i j with h | h
     ·have := tr_le hT (show i + 1 ≤ j by omega) (by omega); omega
     ·have := tr_le hT (show j + 1 ≤ i by omega) (by omega); omega
 have hJJ2 : Inj.le J J2 := by
  intro b bb hb'
  simp only [J2]
  split
  ·rename_i h; rw [hfree b h.1 h.2] at hb'; cases hb'
  ·exact hb'
 have hJr : ∀ m, Inj.le (Jr J m) (Jr J2 m) := fun m => Jr_le fun b bb _ h => hJJ2 b bb h
 have hJr' : Inj.le J' (Jr J2 (tr (j + 1)).mem.length) := by
  intro b bb hb'
  have hlt := hm.lt hb'
  unfold Jr
  rw [if_pos hlt]
  simp only [J2]
  by_cases h : (tr j).mem.length ≤ b
  ·rw [if_pos ⟨h, hlt⟩]; exact hb'
  ·rw [if_neg (by omega)]
   rw [hext.old b (by omega)] at hb'
   exact (Jr_some hb').2
 have hset : ∀ i, i ≠ j → (listed.setIfInBounds j true).getD i false = listed.getD i false := fun i hi => Go.getD_set_ne false (fun h => hi h.symm)
 have hsetj : (listed.setIfInBounds j true).getD j false = true := by simp [hsz]
 have hbef : ∀ k, bef ops j k = true → listed.getD k false = true := by
  intro k hk
  obtain ⟨e, he, hb', h1⟩ := bef_spec ho hk
  have h2 := hr e he hb'
  rcases h1 with rfl | h1
  ·exact h2
  ·exact hI.closed _ _ h2 h1
 have hget : ∀ t, (a.put o.dst v).tmps.getD t undef = if o.dst = some t then v else a.tmps.getD t undef :=
  put_getD fun t ht => by rw [hI.tsize]; have := hD.lt t ht; rw [(tr_n hT j (by omega)).1] at this; exact this
 refine ⟨J2, ⟨by simp [hI.size], ?_, ?_, ?_, ?_, ?_, ?_, ?_, ?_, ?_, ?_⟩⟩
 ·
  intro i k hi hk
  by_cases e : i = j
  ·subst e
   exact getD_set_true (hbef k hk)
  ·rw [hset i e] at hi
   exact getD_set_true (hI.closed i k hi hk)
 ·
  intro k hk
  by_cases hkj : k ≤ j
  ·have hsame : Jr J2 (tr k).mem.length = Jr J (tr k).mem.length := by
    funext b
    unfold Jr
    split
    ·rename_i h
     simp only [J2]
     have := tr_le hT hkj (by omega)
     rw [if_neg (by omega)]
    ·rfl
   rw [hsame]
   have := (hI.mem k hk).grow (new := []) (J' := Jr J (tr k).mem.length) (fun _ _ h => h) hb.size (fun i hi => hb.block i hi) (fun _ _ _ h => h)
    (fun b bb hb' hJ => by obtain ⟨h1, _⟩ := Jr_some hJ; omega) (fun b b' bb bb' pb hb' _ hp => by simp at hp)
   simpa using this
  ·have hkj' : j + 1 ≤ k := by omega
   have hlk := tr_le hT hkj' hk
   have hle2 : Inj.le (Jr J2 (tr (j + 1)).mem.length) (Jr J2 (tr k).mem.length) := Jr_mono hlk
   have hold := hI.mem k hk
   have hcase : ∀ b bb, Jr J2 (tr k).mem.length b = some bb → (((tr j).mem.length ≤ b ∧ b < (tr (j + 1)).mem.length) ∧ J' b = some bb) ∨
     (¬ ((tr j).mem.length ≤ b ∧ b < (tr (j + 1)).mem.length) ∧ Jr J (tr k).mem.length b = some bb) := by
    intro b bb hJ
    obtain ⟨h1, h2⟩ := Jr_some hJ
    simp only [J2] at h2
    split at h2
    ·rename_i h; exact .inl ⟨h, h2⟩
    ·rename_i h; exact .inr ⟨h, by unfold Jr; rw [if_pos h1]; exact h2⟩
   refine ⟨fun b bb hJ => ?_, fun b b' bb bb' pb hp hown hJ hJb' hne => ?_⟩
   ·rcases hcase b bb hJ with ⟨hin, hJ'⟩ | ⟨hout, hJo⟩
    ·obtain ⟨pb, hpb, hB⟩ := hm.blk b bb hJ'
     refine ⟨pb, by rw [tr_pre hT hkj' hk hin.2]; exact hpb, hB.of_cells (fun c cc hc => hle2 _ _ (hJr' _ _ hc)) (Nat.le_refl _) (fun _ => rfl) (fun _ => rfl)⟩
    ·obtain ⟨pb, hpb, hB⟩ := hold.blk b bb hJo
     exact ⟨pb, hpb, hB.of_cells (hJr _) hb.size (fun q => World.cell?_of_block (w := w) (hb.block _ hB.there)) (fun q => World.frozen?_of_block (w := w) (hb.block _ hB.there))⟩
   ·rcases hcase b bb hJ with ⟨hin, hJ'⟩ | ⟨hout, hJo⟩
    ·rcases hcase b' bb' hJb' with ⟨hin', hJ2'⟩ | ⟨hout', hJo'⟩
     ·refine hm.apart b b' bb bb' pb ?_ hown hJ' hJ2' hne
      rw [← tr_pre hT hkj' hk hin.2]; exact hp
     ·obtain ⟨pb', _, hB'⟩ := hold.blk b' bb' hJo'
      have h1 := hext.new b bb hin.1 hJ'
      have h2 := hB'.there
      omega
    ·rcases hcase b' bb' hJb' with ⟨hin', hJ2'⟩ | ⟨hout', hJo'⟩
     ·obtain ⟨pb', _, hB'⟩ := hold.blk b bb hJo
      have h1 := hext.new b' bb' hin'.1 hJ2'
      have h2 := hB'.there
      omega
     ·exact hold.apart b b' bb bb' pb hp hown hJo hJo' hne
 ·
  intro b bb hJ
  simp only [J2] at hJ
  split at hJ
  ·rename_i h
   exact .inr ⟨j, hjl, hsetj, h.1, h.2⟩
  ·rcases hI.fresh b bb hJ with h | ⟨i, hil, hli, h1, h2⟩
   ·exact .inl h
   ·exact .inr ⟨i, hil, getD_set_true hli, h1, h2⟩
 ·
  cases hd : o.dst with
  | none => exact hI.tsize
  | some d => simpa [Act.put] using hI.tsize
 ·
  intro t i oi hi hd hli hmax
  rw [hget t]
  by_cases e : i = j
  ·subst e
   have : oi = o := by rw [hoj] at hi; exact (Option.some.inj hi).symm
   subst this
   rw [if_pos hd]
   exact hv.mono hJr'
  ·rw [hset i e] at hli
   by_cases hdt : o.dst = some t
   ·
    exfalso
    have hle := hmax j o hoj hdt hsetj
    obtain ⟨_, hspec⟩ := tempsOk_spec hok ho
    obtain ⟨_, k2⟩ := hspec i oi t (by rw [← Array.getElem?_toList]; exact hi) hd e (opTmps_dst hdt)
    have := hI.closed i j hli (k2 (by omega))
    rw [hju] at this
    cases this
   ·rw [if_neg hdt]
    exact (hI.last t i oi hi hd hli (fun i' o' h1 h2 h3 => hmax i' o' h1 h2 (getD_set_true h3))).mono (hJr _)
 ·
  intro t hn
  rw [hget t]
  by_cases hdt : o.dst = some t
  ·have := hn j o hoj hdt
   rw [hsetj] at this
   cases this
  ·rw [if_neg hdt]
   refine (hI.none t (fun i oi hi hd => ?_)).mono (hJr _)
   have hne : i ≠ j := by
    intro e
    subst e
    rw [hoj] at hi
    cases hi
    exact hdt hd
   have := hn i oi hi hd
   rw [hset i hne] at this
   exact this
 ·exact hI.low.mono (hJr _)
 ·exact hI.below.trans (hb.mono hI.base)
 ·exact Nat.le_trans hI.base hb.size
 ·rw [put_defers]; exact hI.defers
theorem draw_any {P : Program} {Q : Exit → Act → World → Prop} (hE : EnvT P E) (hok : tempsOk ops = true) (hq : ops.toList.all (quietOp E) = true) (hT : Tr E ops tr pv ex)
  (h0 : ∀ t y, lookN t (tr 0).fr.sl = some y → t < (tr 0).fr.n)
  (hQ : ∀ J a w, RelS base w0 J (tr ops.toList.length) a.tmps lows w → a.defers = ds → Q .normal a w) :
  ∀ (fuel : Nat) (listed : Array Bool) (J : Inj) (a : Act) (w : World), cnt listed ops.toList.length ≤ fuel → DInv ops tr pv base w0 lows ds listed J a w → wpAny P .any ops Q fuel listed a w := by
 have hend : ∀ (listed : Array Bool) (J : Inj) (a : Act) (w : World), DInv ops tr pv base w0 lows ds listed J a w → (∀ i, i < ops.toList.length → listed.getD i true = true) → Q .normal a w := by
  intro listed J a w hI hall
  have hlist : ∀ i, i < ops.toList.length → listed.getD i false = true := by
   intro i hi
   have := hall i hi
   have hs : i < listed.size := by rw [hI.size]; exact hi
   simp [hs] at this ⊢
   exact this
  refine hQ (Jr J (tr ops.toList.length).mem.length) a w ⟨⟨?_, ?_⟩, ?_, hI.mem _ (Nat.le_refl _), hI.below, hI.base⟩ hI.defers
  ·rw [hI.tsize, (tr_n hT _ (Nat.le_refl _)).1]
  ·intro t y hy
   have hlt := tr_keys hT h0 _ (Nat.le_refl _) t y hy
   have hlt' : t < a.tmps.size := by rw [hI.tsize]; exact hlt
   refine ⟨a.tmps[t], by simp [hlt'], ?_⟩
   have hgy : (tr ops.toList.length).get t = y := by unfold St.get; rw [hy]; rfl
   have hgd : a.tmps.getD t undef = a.tmps[t] := by simp [hlt']
   rw [← hgy, ← hgd]
   by_cases hw : ∃ i, i < ops.toList.length ∧ ∃ oi, ops.toList[i]? = some oi ∧ oi.dst = some t
   ·obtain ⟨i, hil, ⟨oi, hoi, hd⟩, hmax⟩ := last_of (fun i => ∃ oi, ops.toList[i]? = some oi ∧ oi.dst = some t) _ hw
    rw [tr_some hT hoi hd _ hil (Nat.le_refl _) (fun i' o' h1 h2 h3 h4 => hmax i' h1 h2 ⟨o', h3, h4⟩)]
    refine (hI.last t i oi hoi hd (hlist i hil) (fun i' o' ho' hd' _ => ?_)).mono (Jr_mono (tr_le hT (by omega) (Nat.le_refl _)))
    rcases Nat.lt_or_ge i i' with h | h
    ·exact absurd ⟨o', ho', hd'⟩ (hmax i' h (List.getElem?_eq_some_iff.1 ho').1)
    ·exact h
   ·rw [tr_none hT _ (Nat.le_refl _) (fun i oi hi ho' hd => hw ⟨i, hi, oi, ho', hd⟩)]
    exact (hI.none t (fun i oi hi hd => absurd ⟨i, (List.getElem?_eq_some_iff.1 hi).1, oi, hi, hd⟩ hw)).mono (Jr_mono (tr_le hT (Nat.zero_le _) (Nat.le_refl _)))
  ·rw [(tr_n hT _ (Nat.le_refl _)).2]
   exact hI.low.mono (Jr_mono (tr_le hT (Nat.zero_le _) (Nat.le_refl _)))
 have hready : ∀ (listed : Array Bool) (J : Inj) (a : Act) (w : World), DInv ops tr pv base w0 lows ds listed J a w → Region.ready .any ops listed = [] → ∀ i, i < ops.toList.length → listed.getD i true = true := by
  intro listed J a w hI hr i
  induction i using Nat.strongRecOn with
  | _ i ih =>
   intro hi
   cases hq : listed.getD i true with
   | true => rfl
   | false =>
    exfalso
    have hoi : ops[i]? = some ops.toList[i] := by rw [← Array.getElem?_toList]; simp
    obtain ⟨hlt, _⟩ := tempsOk_spec hok hoi
    have : i ∈ Region.ready .any ops listed := mem_ready.2 ⟨hq, _, hoi, fun e he hb => by
     have h1 := hlt e he hb
     have h2 := ih e.on h1 (by omega)
     have hs : e.on < listed.size := by rw [hI.size]; omega
     simp [hs] at h2 ⊢
     exact h2⟩
    rw [hr] at this
    cases this
 intro fuel
 induction fuel with
 | zero =>
  intro listed J a w hc hI
  have hall := cnt_zero ops.toList.length (by omega) (listed := listed)
  refine ⟨?_, hend listed J a w hI hall⟩
  cases hq : Region.ready .any ops listed with
  | nil => rfl
  | cons i r =>
   exfalso
   have hi : i ∈ Region.ready .any ops listed := by rw [hq]; simp
   obtain ⟨hu, o, ho, _⟩ := mem_ready.1 hi
   have hil : i < ops.toList.length := by
    have := (Array.getElem?_eq_some_iff.1 ho).1
    simpa using this
   rw [hall i hil] at hu
   cases hu
 | succ fuel ih =>
  intro listed J a w hc hI
  refine ⟨fun hr => hend listed J a w hI (hready listed J a w hI hr), fun j hj => ?_⟩
  obtain ⟨hu, o, ho, hafter⟩ := mem_ready.1 hj
  have hjl : j < ops.toList.length := by
   have := (Array.getElem?_eq_some_iff.1 ho).1
   simpa using this
  have hoj : ops.toList[j]? = some o := by rw [Array.getElem?_toList]; exact ho
  have hD := hT j o hoj
  have hju := getD_ft hu
  have hcnt : cnt (listed.setIfInBounds j true) ops.toList.length ≤ fuel := by
   have := cnt_set (by rw [hI.size]; exact hjl) hu ops.toList.length hjl
   omega
  have hnames : ∀ t, t ∈ opTmps ops.toList o → RelP (Jr J (tr j).mem.length) ((tr j).get t) (a.tmps.getD t undef) := fun t ht => (names_ok hok hT hI ho hu hafter ht).1
  have hwant : Region.wanted o (yielded ops a.tmps) = ex j := by
   have hg := hD.guard
   cases hgd : o.guard with
   | none => rw [hgd] at hg; simp only at hg; rw [hg]; simp [Region.wanted, hgd]
   | some gw =>
    obtain ⟨g, want⟩ := gw
    rw [hgd] at hg
    obtain ⟨t, h1, h23⟩ := hg
    have hrel := hnames t (opTmps_guard hgd h1)
    rcases h23 with ⟨b, h2, h3⟩ | ⟨h2, h3⟩
    ·rw [h2] at hrel
     have hval : a.tmps.getD t undef = .bool b := by
      generalize a.tmps.getD t undef = vv at hrel
      cases hrel
      rfl
     have hy : yielded ops a.tmps g = some b := by
      unfold yielded
      rw [← Array.getElem?_toList, h1]
      simp only [Option.bind_some]
      have hlt : t < a.tmps.size := by
       rcases Nat.lt_or_ge t a.tmps.size with h | h
       ·exact h
       ·simp [Array.getElem?_eq_none h] at hval
        cases hval
      simp [hlt] at hval
      simp [hlt, hval]
     rw [h3]
     simp [Region.wanted, hgd, hy]
    ·rw [h2] at hrel
     have hval := relP_undef hrel
     have hy : yielded ops a.tmps g = none := by
      unfold yielded
      rw [← Array.getElem?_toList, h1]
      simp only [Option.bind_some]
      rcases Nat.lt_or_ge t a.tmps.size with hlt | h
      ·simp [hlt] at hval
       simp [hlt, hval, Go.undef]
      ·simp [Array.getElem?_eq_none h]
     rw [h3]
     simp [Region.wanted, hgd, hy]
  unfold wpOp
  rw [ho]
  simp only
  rw [hwant]
  cases he : ex j with
  | false =>
   rw [if_neg (by simp)]
   obtain ⟨hp1, hp2⟩ := hD.pass he
   have hmj := hI.mem j (by omega)
   obtain ⟨J2, hI2⟩ := inv_step hok hT hI ho hu hafter (J' := Jr J (tr j).mem.length) (w' := w) (v := undef) (Ext.refl hmj) (by rw [hp2]; exact hmj) (Below.refl _ _) (by rw [hp1]; exact RelP.undef _)
   exact ih _ J2 _ w hcnt hI2
  | true =>
   rw [if_pos rfl]
   obtain ⟨s1, new, ctx, hs, hmem, hpar⟩ := hD.run he
   have hmj := hI.mem j (by omega)
   have hev : Evals (Jr J (tr j).mem.length) s1 a.eval o.op := by
    intro y hy
    cases y with
    | tmp t =>
     show RelP _ (s1.get t) (a.tmps.getD t undef)
     rw [hs.get t]
     exact hnames t (opTmps_operand hy)
    | const v => exact relConst _ v
    | func f => exact Rel.fn rfl rfl (fun i l v hi _ => by simp at hi)
    | global g => exact RelP.unk _ _
   have hqo : quietOp E o = true := List.all_eq_true.1 hq o (List.mem_of_getElem? hoj)
   have hdone := quiet_sound (R := fun v w' => wpAny P .any ops Q fuel (listed.setIfInBounds j true) (a.put o.dst v) w') (K := fun v s' => some (v, s')) (x := (pv j, { s1 with mem := s1.mem ++ new }))
    (hd := fun _ _ _ _ _ => none) (ctx := ctx) hE hqo hev (by rw [hs.mem]; exact hmj) hI.base (fun v pv' new' J' w' hk hext hm hb hv => by
     injection hk with hk
     injection hk with hk1 hk2
     have hnew : new' = new := by
      injection hk2 with _ _ hk2
      exact List.append_cancel_left hk2
     subst hk1
     subst hnew
     rw [hs.mem] at hext hm
     rw [← hmem] at hm
     obtain ⟨J2, hI2⟩ := inv_step hok hT hI ho hu hafter hext hm hb hv
     exact ih _ J2 _ w' hcnt hI2) (hpar _ _ _)
   exact .inl (hdone.wp fun v w' h => h)
end
theorem any_ok {P : Program} {E : Env} (hE : EnvT P E) {β : Type} {hd : Hd β} {x : β} {base : Nat} {w0 : World} {lows : List (Array Value)} {Q : Exit → Act → World → Prop} {ctx : List Nat} {ops : Array Oper} {K : St → Option β} {s : St} {J : Inj} {a : Act} {w : World}
  (hq : ops.toList.all (quietOp E) = true) (hok : tempsOk ops = true) (h : exOps E hd ctx ops.toList 0 ops.toList s K = some x) (hS : RelS base w0 J s a.tmps lows w)
  (hQ : ∀ s' J' a' w', K s' = some x → RelS base w0 J' s' a'.tmps lows w' → a'.defers = a.defers → Q .normal a' w') :
  wpAny P .any ops Q ops.size (Array.replicate ops.size false) a { w with drawn := w.drawn + 1 } := by
 obtain ⟨tr, pv, ex, h0, hK, hT⟩ := trace_ok (fun f fo hl => (hE.fns f fo hl).1) ops.toList 0 s hq h
 subst h0
 have hkeys : ∀ t y, lookN t (tr 0).fr.sl = some y → t < (tr 0).fr.n := by
  intro t y hy
  obtain ⟨v, hv, _⟩ := hS.fr.2 t y hy
  rw [← hS.fr.1]
  exact (Array.getElem?_eq_some_iff.1 hv).1
 have hJr : Jr J (tr 0).mem.length = J := by
  funext b
  unfold Jr
  split
  ·rfl
  ·rename_i hn
   cases hq : J b with
   | none => rfl
   | some bb => exact absurd (hS.mem.lt hq) hn
 have hlisted : ∀ i, (Array.replicate ops.size false).getD i false = false := by
  intro i
  rcases Nat.lt_or_ge i ops.size with h | h
  ·simp [h]
  ·simp [h]
 have hmem0 : RelM base J (tr 0).mem ({ w with drawn := w.drawn + 1 } : World) :=
  ⟨fun b bb hb => by
   obtain ⟨pb, hp, hB⟩ := hS.mem.blk b bb hb
   exact ⟨pb, hp, hB.of_cells (w := w) (fun _ _ h => h) (Nat.le_refl _) (fun _ => rfl) (fun _ => rfl)⟩, hS.mem.apart⟩
 refine draw_any (E := E) (tr := tr) (pv := pv) (ex := ex) (base := base) (w0 := w0) (lows := lows) (ds := a.defers) (J := J) hE hok hq hT hkeys (fun J' a' w' hS' hd' => hQ (tr ops.toList.length) J' a' w' hK hS' hd') ops.size _ a _ ?_ ?_
 ·have : ∀ k, cnt (Array.replicate ops.size false) k ≤ k := by
   intro k
   induction k with
   | zero => exact Nat.le_refl _
   | succ k ih =>
    simp only [cnt]
    cases (Array.replicate ops.size false).getD k true <;> simp <;> omega
  have := this ops.toList.length
  simpa using this
 ·refine ⟨by simp, ?_, ?_, ?_, ?_, ?_, ?_, ?_, ?_, hS.base, rfl⟩
  ·intro i k hi; rw [hlisted] at hi; cases hi
  ·intro k hk
   have hle := tr_le hT (Nat.zero_le k) hk
   have hsame : Jr J (tr k).mem.length = J := by
    funext b
    unfold Jr
    split
    ·rfl
    ·rename_i hn
     cases hq : J b with
     | none => rfl
     | some bb => exact absurd (hS.mem.lt hq) (by omega)
   rw [hsame]
   refine ⟨fun b bb hb => ?_, fun b b' bb bb' pb hp ho hb hb' hne => ?_⟩
   ·obtain ⟨pb, hp, hB⟩ := hmem0.blk b bb hb
    exact ⟨pb, by rw [tr_pre hT (Nat.zero_le k) hk (hS.mem.lt hb)]; exact hp, hB⟩
   ·rw [tr_pre hT (Nat.zero_le k) hk (hS.mem.lt hb)] at hp
    exact hS.mem.apart b b' bb bb' pb hp ho hb hb' hne
  ·intro b bb hb; exact .inl (hS.mem.lt hb)
  ·exact hS.fr.1
  ·intro t i o hi hd hli; rw [hlisted] at hli; cases hli
  ·intro t _; rw [hJr]; exact hS.fr.get t
  ·rw [hJr]; exact hS.low
  ·exact hS.below.drew
end Go.Sy
