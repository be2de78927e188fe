/- The evaluator. -/
import Derived.Test.YtjmbhhinmbgneaaGreatSzSplit
import Derived.Test.YtjmbhhinmbgneaaGreatSzUnit
namespace Go.Sy
def zeroB : LV → Value → Bool
 | .i0 k n, .int k' n' => decide (k = k') && decide (n = n')
 | .b0 b, .bool b' => b == b'
 | .s0 s, .string s' => decide (s.data.toList = s'.data.toList)
 | .pn, .pointer none => true
 | .sln, .slice none 0 0 => true
 | .fnn, .nilFunc => true
 | .unk, _ => true
 | _, _ => false
def zeroLB : List LV → List Value → Bool
 | [], [] => true
 | l :: ls, v :: vs => zeroB l v && zeroLB ls vs
 | _, _ => false
theorem zeroB_ok {J : Inj} {l : LV} {v : Value} (h : zeroB l v = true) : Rel J l v := by
 unfold zeroB at h
 split at h
 ·simp only [Bool.and_eq_true, decide_eq_true_eq] at h
  rw [h.1, h.2]
  exact .i0 _ _
 ·rw [show _ = _ from eq_of_beq h]; exact .b0 _
 ·rename_i s s'
  have h := of_decide_eq_true h
  have : s = s' := by
   cases s; cases s'
   congr 1
   exact Array.ext' h
  rw [this]; exact .s0 _
 ·exact .pn
 ·exact .sln
 ·exact .fnn
 ·exact .unk _
 ·cases h
theorem zeroLB_ok {J : Inj} : ∀ {ls : List LV} {vs : List Value}, zeroLB ls vs = true → RelL J ls vs
 | [], [], _ => trivial
 | _ :: _, _ :: _, h => by
  simp only [zeroLB, Bool.and_eq_true] at h
  exact ⟨zeroB_ok h.1, zeroLB_ok h.2⟩
def szB (P : Program) (e : TypeId) (sz : Nat) (agg : Bool) : Bool :=
 match P.info? e, P.underlying e with
 | some i, some d => Nat.beq i.size sz && (isAggD d == agg)
 | _, _ => false
theorem szB_ok {P : Program} {e : TypeId} {sz : Nat} {agg : Bool} (h : szB P e sz agg = true) : SzOk P e sz agg := by
 unfold szB at h
 split at h
 ·rename_i i d hi hd
  simp only [Bool.and_eq_true] at h
  exact ⟨⟨i, hi, nat_beq h.1⟩, d, hd, eq_of_beq h.2⟩
 ·cases h
def fsB (P : Program) : List Field → List (Nat × Nat × Bool) → Bool
 | [], [] => true
 | f :: fs, x :: xs => Nat.beq f.offset x.1 && szB P f.type x.2.1 x.2.2 && fsB P fs xs
 | _, _ => false
theorem fsB_ok {P : Program} : ∀ {fs : List Field} {xs : List (Nat × Nat × Bool)}, fsB P fs xs = true → fs.length = xs.length ∧
  ∀ (i : Nat) (x : Nat × Nat × Bool), xs[i]? = some x → ∃ f, fs[i]? = some f ∧ f.offset = x.1 ∧ SzOk P f.type x.2.1 x.2.2
 | [], [], _ => ⟨rfl, fun i x h => by simp at h⟩
 | f :: fs, y :: xs, h => by
  simp only [fsB, Bool.and_eq_true] at h
  obtain ⟨h1, h2⟩ := fsB_ok h.2
  refine ⟨by simp [h1], fun i x hx => ?_⟩
  cases i with
  | zero => simp at hx; subst hx; exact ⟨f, rfl, nat_beq h.1.1, szB_ok h.1.2⟩
  | succ i => simpa using h2 i x (by simpa using hx)
 | [], _ :: _, h => by simp [fsB] at h
 | _ :: _, [], h => by simp [fsB] at h
def kB (P : Program) (t : TypeId) (k : TK) : Bool :=
 match k, P.underlying t with
 | .bool, some .bool => true
 | .int k, some (.int k') => decide (k' = k)
 | .str, some .string => true
 | .ptr, some (.pointer _) => true
 | .func, some (.func _ _ _) => true
 | .st fs, some (.struct fields) => fsB P fields.toList fs
 | .arr n esz agg, some (.array n' e) => Nat.beq n' n && szB P e esz agg
 | .sl esz bytes agg zero, some (.slice e) => szB P e esz agg && (match P.info? e with
  | some i => Nat.beq i.bytes bytes && (match i.zero with | some z => zeroLB zero z.cells.toList | none => false)
  | none => false)
 | .parr n esz, some (.pointer a) => match P.underlying a with
  | some (.array n' e) => Nat.beq n' n && (szB P e esz true || szB P e esz false)
  | _ => false
 | .other, _ => true
 | _, _ => false
theorem kB_ok {P : Program} {t : TypeId} {k : TK} (h : kB P t k = true) : KOk P t k := by
 unfold kB at h
 split at h
 ·rename_i hu; exact hu
 ·rename_i hu; rw [of_decide_eq_true h] at hu; exact hu
 ·rename_i hu; exact hu
 ·rename_i hu; exact ⟨_, hu⟩
 ·rename_i hu; exact ⟨_, _, _, hu⟩
 ·rename_i fields hu
  obtain ⟨h1, h2⟩ := fsB_ok h
  exact ⟨fields, hu, by simpa using h1, fun i x hx => by
   obtain ⟨f, hf, h3⟩ := h2 i x hx
   exact ⟨f, by rw [← Array.getElem?_toList]; exact hf, h3⟩⟩
 ·rename_i hu
  simp only [Bool.and_eq_true] at h
  rw [nat_beq h.1] at hu
  exact ⟨_, hu, szB_ok h.2⟩
 ·rename_i hu
  simp only [Bool.and_eq_true] at h
  obtain ⟨h1, h2⟩ := h
  split at h2
  ·rename_i i hi
   simp only [Bool.and_eq_true] at h2
   obtain ⟨h3, h4⟩ := h2
   split at h4
   ·rename_i z hz
    exact ⟨_, i, z, hu, szB_ok h1, hi, nat_beq h3, hz, fun J => zeroLB_ok h4⟩
   ·cases h4
  ·cases h2
 ·rename_i hu
  split at h
  ·rename_i hua
   simp only [Bool.and_eq_true, Bool.or_eq_true] at h
   rw [nat_beq h.1] at hua
   rcases h.2 with h2 | h2
   ·exact ⟨_, _, _, hu, hua, szB_ok h2⟩
   ·exact ⟨_, _, _, hu, hua, szB_ok h2⟩
  ·cases h
 ·trivial
 ·cases h
def tiB (P : Program) (t : TypeId) (ti : TI) : Bool :=
 !ti.kind.known || ((match P.info? t with
  | some i => Nat.beq i.size ti.sz && (ti.zero.isEmpty || (match i.zero with | some z => zeroLB ti.zero z.cells.toList | none => false))
  | none => false) && kB P t ti.kind)
theorem tiB_ok {P : Program} {t : TypeId} {ti : TI} (h : tiB P t ti = true) : TIok P t ti := by
 intro hk
 unfold tiB at h
 rw [hk] at h
 simp only [Bool.not_true, Bool.false_or, Bool.and_eq_true] at h
 obtain ⟨h1, h2⟩ := h
 refine ⟨?_, kB_ok h2⟩
 split at h1
 ·rename_i i hi
  simp only [Bool.and_eq_true, Bool.or_eq_true] at h1
  refine ⟨i, hi, nat_beq h1.1, fun hz => ?_⟩
  rcases h1.2 with h3 | h3
  ·exact absurd (by simpa using h3) hz
  ·split at h3
   ·rename_i z hz'
    exact ⟨z, hz', fun J => zeroLB_ok h3⟩
   ·cases h3
 ·cases h1
def tabB (P : Program) : Nat → List TI → Bool
 | _, [] => true
 | t, ti :: r => tiB P t ti && tabB P (t + 1) r
theorem tabB_ok {P : Program} : ∀ {tt : List TI} {j : Nat}, tabB P j tt = true → ∀ i, TIok P (j + i) (tt.getD i ⟨0, [], .other⟩)
 | [], j, _, i => by intro hk; simp at hk; cases hk
 | ti :: r, j, h, 0 => by
  simp only [tabB, Bool.and_eq_true] at h
  simpa using tiB_ok h.1
 | ti :: r, j, h, i + 1 => by
  simp only [tabB, Bool.and_eq_true] at h
  have := tabB_ok (j := j + 1) h.2 i
  rw [show j + (i + 1) = j + 1 + i by omega]
  simpa using this
def fnB (fn : Func) : Bool := !(fn.name == "runtime.NumGoroutine") && fn.body.isSome
theorem fnB_ok {P : Program} {f : FuncId} {fn : Func} (hf : P.funcs[f]? = some fn) (h : fnB fn = true) : FnOk P f := by
 unfold fnB at h
 simp only [Bool.and_eq_true, Bool.not_eq_true'] at h
 refine ⟨fn, hf, h.1, ?_⟩
 cases hb : fn.body with
 | none => rw [hb] at h; simp at h
 | some c => rfl
def fnsOk (P : Program) : List (FuncId × FO) → Prop
 | [] => True
 | (f, o) :: r => FOok P f o ∧ fnsOk P r
theorem fnsOk_look {P : Program} : ∀ {l : List (FuncId × FO)}, fnsOk P l → ∀ f o, lookFO f l = some o → FOok P f o
 | [], _, f, o, h => by simp [lookFO] at h
 | (u, x) :: r, ⟨a, b⟩, f, o, h => by
  have h' : (bif Nat.beq f u then some x else lookFO f r) = some o := h
  cases hq : Nat.beq f u with
  | true =>
   rw [hq] at h'
   injection h' with h'
   subst h'
   rw [nat_beq hq]
   exact a
  | false =>
   rw [hq] at h'
   exact fnsOk_look b f o h'
def eqEK : EK → EK → Bool
 | .i k, .i k' => decide (k = k')
 | .b, .b => true
 | .s, .s => true
 | _, _ => false
def eqEKs : List EK → List EK → Bool
 | [], [] => true
 | x :: r, y :: r' => eqEK x y && eqEKs r r'
 | _, _ => false
theorem eqEK_eq {x y : EK} (h : eqEK x y = true) : x = y := by
 unfold eqEK at h
 split at h
 ·rw [of_decide_eq_true h]
 ·rfl
 ·rfl
 ·cases h
theorem eqEKs_eq : ∀ {x y : List EK}, eqEKs x y = true → x = y
 | [], [], _ => rfl
 | x :: r, y :: r', h => by
  simp only [eqEKs, Bool.and_eq_true] at h
  rw [eqEK_eq h.1, eqEKs_eq h.2]
 | [], _ :: _, h => by simp [eqEKs] at h
 | _ :: _, [], h => by simp [eqEKs] at h
def eqsB (P : Program) : List (Nat × List EK) → Bool
 | [] => true
 | (t, ks) :: r => (match eqTB P 8 t with | some q => eqEKs q ks | none => false) && (match P.underlying t with | some d => isAggD d | none => false) && !(P.eqGuardType P.depth t) && eqsB P r
theorem eqsB_ok {P : Program} : ∀ {l : List (Nat × List EK)}, eqsB P l = true → ∀ t ks, lookN t l = some ks → EqTy P t ks
 | [], _, t, ks, h => by simp [lookN] at h
 | (u, q) :: r, h, t, ks, hl => by
  simp only [eqsB, Bool.and_eq_true, Bool.not_eq_true'] at h
  obtain ⟨⟨⟨h1, h2⟩, h3⟩, h4⟩ := h
  rw [lookN_cons] at hl
  split at hl
  ·rename_i e
   subst e
   injection hl with hl
   subst hl
   split at h1
   ·rename_i q' hq
    rw [eqEKs_eq h1] at hq
    exact eqTy_of hq h2 h3
   ·cases h1
  ·exact eqsB_ok h4 t ks hl
theorem envT_of {P : Program} {E : Env} (ht : tabB P 0 E.tt = true) (he : eqsB P E.eqs = true) (hf : fnsOk P E.fns) : EnvT P E :=
 ⟨fun t => by have := tabB_ok ht t; rwa [Nat.zero_add] at this, fnsOk_look hf, eqsB_ok he⟩
def inlOk (P : Program) : List (FuncId × Func) → Prop
 | [] => True
 | (f, fn) :: r => (P.funcs[f]? = some fn ∧ fnB fn = true) ∧ inlOk P r
theorem inlOk_look {P : Program} : ∀ {l : List (FuncId × Func)}, inlOk P l → ∀ f fn, lookN f l = some fn → P.funcs[f]? = some fn ∧ FnOk P f
 | [], _, f, o, h => by simp [lookN] at h
 | (u, x) :: r, ⟨a, b⟩, f, o, h => by
  rw [lookN_cons] at h
  split at h
  ·rename_i e
   subst e
   injection h with h
   subst h
   exact ⟨a.1, fnB_ok a.1 a.2⟩
  ·exact inlOk_look b f o h
def findLoops (r : Nat) : List Code → List Code
 | [] => []
 | c :: rest => bif Nat.beq (firstRegion c) r then c :: findLoops r rest else findLoops r rest
theorem findLoops_mem {r : Nat} {c : Code} : ∀ {l : List Code}, c ∈ l → firstRegion c = r → c ∈ findLoops r l
 | [], h, _ => by simp at h
 | d :: rest, h, e => by
  simp only [findLoops]
  simp only [List.mem_cons] at h
  rcases h with rfl | h
  ·rw [e, Nat.beq_refl]; simp
  ·have := findLoops_mem h e
   cases Nat.beq (firstRegion d) r <;> simp [this]
structure LoopE (P : Program) where
 key : List Nat
 lo : LO
 fn : Func
 code : Code
 body : Code
 hkey : ∃ r f ctx, key = r :: f :: ctx ∧ P.funcs[f]? = some fn ∧ fn.body = some code ∧ findLoops r (loopsIn code) = [body]
 ok : LOok P body lo
def loopsOk (P : Program) : List (List Nat × LO) → List (LoopE P) → Prop
 | [], [] => True
 | (k, lo) :: r, e :: es => (k = e.key ∧ lo = e.lo) ∧ loopsOk P r es
 | _, _ => False
theorem eqNats_eq : ∀ {a b : List Nat}, eqNats a b = true → a = b
 | [], [], _ => rfl
 | x :: a, y :: b, h => by
  simp only [eqNats, Bool.and_eq_true] at h
  rw [nat_beq h.1, eqNats_eq h.2]
 | [], _ :: _, h => by simp [eqNats] at h
 | _ :: _, [], h => by simp [eqNats] at h
theorem loopsOk_look {P : Program} : ∀ {l : List (List Nat × LO)} {es : List (LoopE P)}, loopsOk P l es → ∀ k lo, lookLO k l = some lo → ∃ e ∈ es, k = e.key ∧ lo = e.lo
 | [], _, _, k, lo, h => by simp [lookLO] at h
 | (u, x) :: r, [], h0, _, _, _ => by cases h0
 | (u, x) :: r, e :: es, ⟨a, b⟩, k, lo, h => by
  have h' : (bif eqNats k u then some x else lookLO k r) = some lo := h
  cases hq : eqNats k u with
  | true =>
   rw [hq] at h'
   injection h' with h'
   subst h'
   exact ⟨e, by simp, (eqNats_eq hq).trans a.1, a.2⟩
  | false =>
   rw [hq] at h'
   obtain ⟨e', he, h2⟩ := loopsOk_look b k lo h'
   exact ⟨e', by simp [he], h2⟩
theorem envI_of {P : Program} {E : Env} (hi : inlOk P E.inl) {es : List (LoopE P)} (hl : loopsOk P E.loops es) : EnvI P E := by
 refine ⟨inlOk_look hi, fun f fn c ctx hf hc body hb lo hlo => ?_⟩
 obtain ⟨e, _, hk, hlo'⟩ := loopsOk_look hl _ _ hlo
 obtain ⟨r, f', ctx', hkey, hf', hc', hfind⟩ := e.hkey
 rw [hkey] at hk
 injection hk with h1 h2
 injection h2 with h2 h3
 subst h2
 rw [hf] at hf'
 cases hf'
 rw [hc] at hc'
 cases hc'
 have := findLoops_mem hb h1
 rw [hfind] at this
 simp at this
 subst this
 rw [hlo']
 exact e.ok
theorem findLoops_in {r : Nat} {c : Code} : ∀ {l : List Code}, c ∈ findLoops r l → c ∈ l
 | [], h => by simp [findLoops] at h
 | d :: rest, h => by
  simp only [findLoops] at h
  cases hq : Nat.beq (firstRegion d) r with
  | true =>
   rw [hq] at h
   simp only [cond_true, List.mem_cons] at h
   rcases h with rfl | h
   ·simp
   ·simp [findLoops_in h]
  | false =>
   rw [hq] at h
   simp only [cond_false] at h
   simp [findLoops_in h]
theorem body_in {r : Nat} {body : Code} {l : List Code} (h : findLoops r l = [body]) : body ∈ l := findLoops_in (r := r) (by rw [h]; simp)
end Go.Sy
