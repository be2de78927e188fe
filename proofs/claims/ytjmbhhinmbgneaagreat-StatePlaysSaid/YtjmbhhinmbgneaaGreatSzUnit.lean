/- The evaluator. -/
import Derived.Test.YtjmbhhinmbgneaaGreatSzIfc
namespace Go.Sy
open Go.RowKit (Below)
structure OutI (Out : Type) where
 get : Option Nat → St → Option Out
 put : (β : Type) → Out → (Nat → St → Option β) → (St → Option β) → Option β
 ok : ∀ (e : Option Nat) (s : St) (o : Out), get e s = some o → ∀ (β : Type) (kx : Nat → St → Option β) (kr : St → Option β) (x : β), put β o kx kr = some x →
  ∀ (base : Nat) (w0 : World) (J : Inj) (tmps : Array Value) (lows : List (Array Value)) (w : World), RelS base w0 J s tmps lows w →
   ∃ s' J', RelS base w0 J' s' tmps lows w ∧ (match e with | some id => kx id s' = some x | none => kr s' = some x)
def OutI.exit (id : Nat) (h : Sh) : OutI h.T where
 get e s := match e with
  | some j => bif Nat.beq j id then h.take s else none
  | none => none
 put _ t kx _ := kx id (h.put t)
 ok e s o hg β kx kr x hp base w0 J tmps lows w hS := by
  cases e with
  | none => cases hg
  | some j =>
   obtain ⟨h1, h2⟩ := cond_some hg
   have h1 := nat_beq h1
   subst h1
   obtain ⟨J', hS'⟩ := Sh.take_ok h2 hS
   exact ⟨h.put o, J', hS', hp⟩
def OutI.ret (h : Sh) : OutI h.T where
 get e s := match e with
  | some _ => none
  | none => h.take s
 put _ t _ kr := kr (h.put t)
 ok e s o hg β kx kr x hp base w0 J tmps lows w hS := by
  cases e with
  | some _ => cases hg
  | none =>
   obtain ⟨J', hS'⟩ := Sh.take_ok hg hS
   exact ⟨h.put o, J', hS', hp⟩
def OutI.or {A B : Type} (a : OutI A) (b : OutI B) : OutI (A ⊕ B) where
 get e s := match a.get e s with
  | some x => some (.inl x)
  | none => (b.get e s).map .inr
 put β o kx kr := Sum.elim (fun x => a.put β x kx kr) (fun y => b.put β y kx kr) o
 ok e s o hg β kx kr x hp base w0 J tmps lows w hS := by
  split at hg
  ·rename_i y hy
   injection hg with hg
   subst hg
   exact a.ok e s y hy β kx kr x hp base w0 J tmps lows w hS
  ·obtain ⟨y, hy, hz⟩ := Option.map_eq_some_iff.1 hg
   subst hz
   exact b.ok e s y hy β kx kr x hp base w0 J tmps lows w hS
def loopLO (h : Sh) {Out : Type} (O : OutI Out) (F : h.T → Option Out) : LO :=
 fun β s kx kr => (h.take s).bind fun t => (F t).bind fun o => O.put β o kx kr
theorem loop_rule {P : Program} {E : Env} (hT : EnvT P E) (hI : EnvI P E) (hD : DrawOk P E) (d : Nat) {body : Code} {f : FuncId} {fn : Func} {c : Code} (hf : P.funcs[f]? = some fn) (hc : fn.body = some c) (hbody : body ∈ loopsIn c)
  {ctx' : List Nat} {h : Sh} {Out : Type} {O : OutI Out} {F : Nat → h.T → Option Out}
  (h0 : ∀ t, F 0 t = none)
  (hr : ∀ n t, exC E (hdl E d) (f :: ctx') body (h.put t) (fun s => (h.take s).bind (F n)) (fun id s => O.get (some id) s) (fun s => O.get none s) = F (n + 1) t)
  (n : Nat) : LOok P body (loopLO h O (F n)) := by
 have hl : ∀ b ∈ loopsIn body, ∀ lo, lookLO (firstRegion b :: f :: ctx') E.loops = some lo → LOok P b lo :=
  fun b hb lo hlo => hI.loops f fn c ctx' hf hc b (loopsIn_trans c hbody hb) lo hlo
 intro β s kx kr x hlo base w0 J a lows w Q hS hx hret
 unfold loopLO at hlo
 obtain ⟨t, h1, hlo⟩ := bind_some' hlo
 obtain ⟨o, h2, h3⟩ := bind_some' hlo
 obtain ⟨J1, hS1⟩ := Sh.take_ok h1 hS
 intro b k cs
 have key : ∀ n t J a' w', F n t = some o → RelS base w0 J (h.put t) a'.tmps lows w' → a'.defers = a.defers →
   ∃ e a'' w'', Q e a'' w'' ∧ Arrives P (lone (b.at a' (.code body :: .inLoop body :: k)) cs w') b k cs e a'' w'' := by
  intro n
  induction n with
  | zero => intro t J a' w' hF; rw [h0] at hF; cases hF
  | succ n ih =>
   intro t J a' w' hF hS' hd
   rw [← hr n t] at hF
   have hwp := code_sound (Q := Exit.then (fun a'' w'' => ∃ t J, F n t = some o ∧ RelS base w0 J (h.put t) a''.tmps lows w'' ∧ a''.defers = a.defers) Q)
    hT (hdl_ok hT hI hD d) hD body (h.put t) _ _ _ J a' w' hl hF hS' hd ?_ ?_ ?_
   ·obtain ⟨e, a₁, w₁, hq, harr⟩ := hwp b (.inLoop body :: k) cs
    cases e with
    | normal =>
     obtain ⟨t', J', hF', hS'', hd''⟩ := hq
     obtain ⟨e₂, a₂, w₂, hq₂, harr₂⟩ := ih t' J' a₁ w₁ hF' hS'' hd''
     exact ⟨e₂, a₂, w₂, hq₂, .of_steps (Steps.trans harr (.one step_inLoop)) harr₂⟩
    | exit id => exact ⟨_, a₁, w₁, hq, .pass (x := .inLoop body) rfl (fun _ _ => .inl (by simp)) harr⟩
    | goto l => exact ⟨_, a₁, w₁, hq, .pass (x := .inLoop body) rfl (fun _ _ => .inl (by simp)) harr⟩
    | ret => exact ⟨_, a₁, w₁, hq, .pass (x := .inLoop body) rfl (fun _ _ => .inl (by simp)) harr⟩
    | panic ch => exact ⟨_, a₁, w₁, hq, .pass (x := .inLoop body) rfl (fun _ _ => .inl (by simp)) harr⟩
    | outgrown => exact ⟨_, a₁, w₁, hq, .pass (x := .inLoop body) rfl (fun _ _ => .inl (by simp)) harr⟩
   ·intro s' J' a'' w'' hk hS'' hd''
    obtain ⟨t', h4, h5⟩ := bind_some' hk
    obtain ⟨J'', hS3⟩ := Sh.take_ok h4 hS''
    exact ⟨t', J'', h5, hS3, hd''⟩
   ·intro id s' J' a'' w'' hk hS'' hd''
    obtain ⟨s3, J3, hS3, hk3⟩ := O.ok (some id) s' o hk β kx kr x h3 base w0 J' a''.tmps lows w'' hS''
    exact hx id s3 J3 a'' w'' hk3 hS3 hd''
   ·intro s' J' a'' w'' hk hS'' hd''
    obtain ⟨s3, J3, hS3, hk3⟩ := O.ok none s' o hk β kx kr x h3 base w0 J' a''.tmps lows w'' hS''
    exact hret s3 J3 a'' w'' hk3 hS3 hd''
 obtain ⟨e, a', w', hq, harr⟩ := key n t J1 a w h2 hS1 rfl
 exact ⟨e, a', w', hq, .of_steps (.one step_loop) harr⟩
def slVals : List (Nat × PV) → List PV
 | [] => []
 | (_, x) :: r => x :: slVals r
def toV1s : List PV → List V1
 | [] => []
 | .v x :: r => x :: toV1s r
 | .tup _ :: r => .sc .unk :: toV1s r
def partsOf : PV → Option (List PV)
 | .v x => some [.v x]
 | .tup [_] => none
 | .tup xs => some (xs.map PV.v)
def joinRes : List PV → PV
 | [x] => x
 | xs => .tup (toV1s xs)
def takeRes (r : Sh) (pv : PV) (s : St) : Option r.T := (partsOf pv).bind fun ps => r.take ⟨⟨ps.length, zipN 0 ps⟩, [], s.mem⟩
def shiftMem (n : Nat) : List PBlk → List PBlk
 | [] => []
 | pb :: r => { pb with cols := LV.renL (· + n) pb.cols } :: shiftMem n r
def renPs (m : Nat → Nat) : List PV → List PV
 | [] => []
 | x :: r => x.ren m :: renPs m r
def fnFO (h r : Sh) (F : h.T → Option r.T) : FO :=
 fun _ args mem k => (h.take ⟨⟨args.length, zipN 0 (viewPs args (clearM mem)).1⟩, [], (viewPs args (clearM mem)).2⟩).bind fun t => (F t).bind fun o =>
  k (joinRes (renPs (· + mem.length) (slVals (r.put o).fr.sl))) (mem ++ shiftMem mem.length (r.put o).mem)
theorem zip_rel {J : Inj} {args : List PV} {vals : List Value} (h : RelPs J args vals) : RelF J ⟨args.length, zipN 0 args⟩ vals.toArray := by
 refine ⟨by simp [h.length], fun t y hy => ?_⟩
 obtain ⟨_, h3⟩ := zipN_look args 0 t y hy
 simp only [Nat.sub_zero] at h3
 obtain ⟨v, hv, hrel⟩ := h.get t y h3
 exact ⟨v, by simpa using hv, hrel⟩
theorem slPut_keys : ∀ (hs : List (Nat × Sh1)) {X : Type} (t : slT hs X), (slPut hs t).1.map (·.1) = hs.map (·.1)
 | [], _, _ => rfl
 | (u, h) :: r, _, t => by simp [slPut, slPut_keys r]
theorem keys_look : ∀ (sl : List (Nat × PV)) (j m : Nat), sl.map (·.1) = List.range' j m → ∀ i, (slVals sl)[i]? = lookN (j + i) sl
 | [], j, m, h, i => by simp [slVals, lookN]
 | (u, x) :: r, j, 0, h, i => by simp at h
 | (u, x) :: r, j, m + 1, h, i => by
  simp only [List.map_cons, List.range'_succ, List.cons.injEq] at h
  obtain ⟨h1, h2⟩ := h
  subst h1
  rw [lookN_cons]
  cases i with
  | zero => simp [slVals]
  | succ i =>
   rw [if_neg (by omega)]
   simp only [slVals, List.getElem?_cons_succ]
   rw [keys_look r (u + 1) m h2 i]
   congr 1
   omega
theorem slVals_length : ∀ (sl : List (Nat × PV)), (slVals sl).length = sl.length
 | [] => rfl
 | (_, _) :: r => by simp [slVals, slVals_length r]
theorem RelPs.of {J : Inj} : ∀ {ls : List PV} {vs : List Value}, ls.length = vs.length → (∀ (i : Nat) (l : PV) (v : Value), ls[i]? = some l → vs[i]? = some v → RelP J l v) → RelPs J ls vs
 | [], [], _, _ => trivial
 | [], _ :: _, h, _ => by simp at h
 | _ :: _, [], h, _ => by simp at h
 | l :: ls, v :: vs, h, k => ⟨k 0 l v rfl rfl, RelPs.of (by simpa using h) fun i x y hx hy => k (i + 1) x y (by simpa using hx) (by simpa using hy)⟩
theorem frame_vals {J : Inj} {n : Nat} {sl : List (Nat × PV)} {vals : List Value} (h : RelF J ⟨n, sl⟩ vals.toArray) (hk : sl.map (·.1) = List.range n) : RelPs J (slVals sl) vals := by
 have hn : vals.length = n := by simpa using h.1
 have hl : sl.length = n := by
  have := congrArg List.length hk
  simpa using this
 refine RelPs.of (by rw [slVals_length, hl, hn]) fun i p v hp hv => ?_
 rw [keys_look sl 0 n (by rw [hk, List.range_eq_range']) i] at hp
 obtain ⟨u, hu, hr⟩ := h.2 _ p hp
 simp only [Nat.zero_add] at hu
 have : u = v := by
  have h1 : vals[i]? = some u := by simpa using hu
  rw [hv] at h1
  exact (Option.some.inj h1).symm
 exact this ▸ hr
theorem memPut_own : ∀ (ms : List (Bool × Bool × List Cd)) {X : Type} (t : memT ms X) (i : Nat) (pb : PBlk), (memPut ms t).1[i]? = some pb → ∃ m, ms[i]? = some m ∧ pb.own = m.1
 | [], _, _, _, _, h => by simp [memPut] at h
 | (o, rw', cs) :: r, _, t, 0, pb, h => by simp [memPut] at h; subst h; exact ⟨_, rfl, rfl⟩
 | (o, rw', cs) :: r, _, t, i + 1, pb, h => by simpa using memPut_own r _ i pb (by simpa [memPut] using h)
theorem RelS.rebase {base base' : Nat} {w0 w0' : World} {J : Inj} {s : St} {tmps : Array Value} {lows : List (Array Value)} {w : World} (h : RelS base w0 J s tmps lows w)
  (hro : ∀ (i : Nat) (pb : PBlk), s.mem[i]? = some pb → pb.own = false) (hb : Below base' w0' w) (hz : base' ≤ w.heap.size) : RelS base' w0' J s tmps lows w := by
 refine ⟨h.fr, h.low, ⟨fun b bb hJ => ?_, fun b b' bb bb' pb hp ho => ?_⟩, hb, hz⟩
 ·obtain ⟨pb, hp, hB⟩ := h.mem.blk b bb hJ
  exact ⟨pb, hp, ⟨hB.esz, hB.flat, hB.there, hB.cell, fun ho => by rw [hro b pb hp] at ho; cases ho⟩⟩
 ·rw [hro b pb hp] at ho; cases ho
theorem parts_rel {J : Inj} {pv : PV} {v : Value} {ps : List PV} (h : RelP J pv v) (hp : partsOf pv = some ps) :
  ∃ us : List Value, RelPs J ps us ∧ ∀ (J' : Inj) (qs : List PV), RelPs J' qs us → (∀ q ∈ qs, ∃ y, q = .v y) → RelP J' (joinRes qs) v := by
 cases pv with
 | v x =>
  simp only [partsOf, Option.some.injEq] at hp
  subst hp
  refine ⟨[v], ⟨h, trivial⟩, fun J' qs hq _ => ?_⟩
  match qs, hq with
  | [q], ⟨hq, _⟩ => exact hq
 | tup xs =>
  obtain ⟨us, rfl, hr⟩ := h
  have hx : ps = xs.map PV.v ∧ xs.length ≠ 1 := by
   unfold partsOf at hp
   split at hp
   ·rename_i e; cases e
   ·cases hp
   ·rename_i ys hne e
    cases e
    injection hp with hp
    refine ⟨hp.symm, fun hl => ?_⟩
    match xs, hl with
    | [y], _ => exact hne y rfl
  obtain ⟨rfl, hne⟩ := hx
  have h1 : ∀ {xs : List V1} {us : List Value}, Rel1s J xs us → RelPs J (xs.map PV.v) us := by
   intro xs
   induction xs with
   | nil => intro us h; cases us with
    | nil => trivial
    | cons _ _ => cases h
   | cons a r ih => intro us h; cases us with
    | nil => cases h
    | cons u us => exact ⟨h.1, ih h.2⟩
  refine ⟨us.toList, h1 hr, fun J' qs hq hv => ?_⟩
  have hlen : qs.length = xs.length := by
   rw [hq.length, ← Rel1s.length hr]
  have h2 : ∀ {qs : List PV} {us : List Value}, RelPs J' qs us → (∀ q ∈ qs, ∃ y, q = .v y) → Rel1s J' (toV1s qs) us := by
   intro qs
   induction qs with
   | nil => intro us h _; cases us with
    | nil => trivial
    | cons _ _ => cases h
   | cons a r ih => intro us h hv; cases us with
    | nil => cases h
    | cons u us =>
     obtain ⟨y, rfl⟩ := hv a (by simp)
     exact ⟨h.1, ih h.2 (fun q hq => hv q (by simp [hq]))⟩
  have hj : joinRes qs = .tup (toV1s qs) := by
   match qs, hlen with
   | [], _ => rfl
   | [q], hl => exact absurd hl.symm hne
   | _ :: _ :: _, _ => rfl
  rw [hj]
  exact ⟨us, rfl, h2 hq hv⟩
theorem Sh1.put_v {h : Sh1} {X : Type} (t : h.cons X) : ∃ y, (h.put t).1 = .v y := by
 cases h with
 | sc c => exact ⟨_, rfl⟩
 | ag cs => exact ⟨_, rfl⟩
theorem slPut_v : ∀ (hs : List (Nat × Sh1)) {X : Type} (t : slT hs X), ∀ q ∈ slVals (slPut hs t).1, ∃ y, q = .v y
 | [], _, _, q, hq => by simp [slPut, slVals] at hq
 | (u, h) :: r, _, t, q, hq => by
  simp only [slPut, slVals, List.mem_cons] at hq
  rcases hq with rfl | hq
  ·exact Sh1.put_v t
  ·exact slPut_v r _ q hq
theorem renPs_rel {J J' : Inj} {m : Nat → Nat} (hr : ∀ b, J' (m b) = J b) : ∀ {ls : List PV} {vs : List Value}, RelPs J ls vs → RelPs J' (renPs m ls) vs
 | [], [], _ => trivial
 | x :: _, _ :: _, ⟨a, b⟩ => ⟨a.ren (ids := x.refs) (fun b _ => hr b) (fun _ h => h), renPs_rel hr b⟩
theorem renPs_v (m : Nat → Nat) : ∀ (qs : List PV), (∀ q ∈ qs, ∃ y, q = .v y) → ∀ q ∈ renPs m qs, ∃ y, q = .v y
 | [], _, q, hq => by simp [renPs] at hq
 | x :: r, h, q, hq => by
  simp only [renPs, List.mem_cons] at hq
  rcases hq with rfl | hq
  ·obtain ⟨y, rfl⟩ := h x (by simp)
   exact ⟨_, rfl⟩
  ·exact renPs_v m r (fun z hz => h z (by simp [hz])) q hq
theorem shiftMem_get (n : Nat) : ∀ (mem : List PBlk) (i : Nat), (shiftMem n mem)[i]? = (mem[i]?).map fun pb => { pb with cols := LV.renL (· + n) pb.cols }
 | [], i => by simp [shiftMem]
 | pb :: r, 0 => by simp [shiftMem]
 | pb :: r, i + 1 => by simpa [shiftMem] using shiftMem_get n r i
theorem fn_rule {P : Program} {E : Env} (hT : EnvT P E) (hI : EnvI P E) (hD : DrawOk P E) (d : Nat) {f : FuncId} {fn : Func} (hf : P.funcs[f]? = some fn) (hfn : FnOk P f) {h r : Sh} {F : h.T → Option r.T}
  (_hlow : h.low = []) (hkey : h.sl.map (·.1) = List.range h.n) (hro : ∀ m ∈ h.mem, m.1 = false) (hkeyr : r.sl.map (·.1) = List.range r.n) (hown : ∀ m ∈ r.mem, m.1 = true)
  (hb : ∀ t, exFn E (hdl E d) [f] fn (slVals (h.put t).fr.sl) ⟨⟨0, []⟩, [], (h.put t).mem⟩ (takeRes r) = F t) : FOok P f (fnFO h r F) := by
 refine ⟨fun β args mem k x hk => ?_, fun β args mem k x hk base J w vals hv hm hbase => .inl ⟨hfn, ?_⟩⟩
 ·unfold fnFO at hk
  obtain ⟨t, h1, hk⟩ := bind_some' hk
  obtain ⟨o, h2, hk⟩ := bind_some' hk
  exact ⟨_, _, fun γ k' => by unfold fnFO; rw [h1]; simp only [Option.bind_some]; rw [h2]; rfl⟩
 unfold fnFO at hk
 obtain ⟨t, h1, hk⟩ := bind_some' hk
 obtain ⟨o, h2, hk⟩ := bind_some' hk
 obtain ⟨Jv, _, v2, v3, _⟩ := viewPs_ok hv (clearM_ok hm) (clearM_ro mem)
 have hlen : (viewPs args (clearM mem)).1.length = args.length := by rw [v2.length, hv.length]
 have hS0 : RelS base w Jv ⟨⟨args.length, zipN 0 (viewPs args (clearM mem)).1⟩, [], (viewPs args (clearM mem)).2⟩ vals.toArray [] w := by
  refine ⟨?_, trivial, v3, Below.refl _ _, hbase⟩
  rw [← hlen]
  exact zip_rel v2
 obtain ⟨J1, hS1⟩ := Sh.take_ok h1 hS0
 have hS2 : RelS w.heap.size w J1 (h.put t) vals.toArray [] w := by
  refine hS1.rebase (fun i pb hp => ?_) (Below.refl _ _) (Nat.le_refl _)
  obtain ⟨m, e1, e2⟩ := memPut_own h.mem _ i pb hp
  rw [e2]
  exact hro m (List.mem_of_getElem? e1)
 have hargs : RelPs J1 (slVals (h.put t).fr.sl) vals := by
  refine frame_vals (n := h.n) hS2.fr ?_
  exact (slPut_keys h.sl (X := lowT h.low (memT h.mem Unit)) t).trans hkey
 have hS3 : RelS w.heap.size w J1 ⟨⟨0, []⟩, [], (h.put t).mem⟩ #[] [] w := ⟨⟨rfl, fun t x hx => by simp [lookN] at hx⟩, trivial, hS2.mem, hS2.below, hS2.base⟩
 have hbt := hb t
 rw [h2] at hbt
 refine (fn_sound (ctx := [f]) hT (hdl_ok hT hI hD d) hD hf (fun c hc => hI.loops f fn c [] hf hc) hbt hS3 hargs).mono fun e w' ⟨v, hev, J', pv, s', hres, hS', hrv⟩ => ⟨v, hev, hS'.below, ?_⟩
 unfold takeRes at hres
 obtain ⟨ps, h3, h4⟩ := bind_some' hres
 obtain ⟨us, hus, hjoin⟩ := parts_rel hrv h3
 have hS4 : RelS w.heap.size w J' ⟨⟨ps.length, zipN 0 ps⟩, [], s'.mem⟩ us.toArray [] w' := ⟨zip_rel hus, trivial, hS'.mem, hS'.below, hS'.base⟩
 obtain ⟨J2, hS5⟩ := Sh.take_ok h4 hS4
 have hres2 : RelPs J2 (slVals (r.put o).fr.sl) us := by
  refine frame_vals (n := r.n) hS5.fr ?_
  exact (slPut_keys r.sl (X := lowT r.low (memT r.mem Unit)) o).trans hkeyr
 let n := mem.length
 let J4 : Inj := fun b => if b < n then J b else J2 (b - n)
 have hJ4 : ∀ b, J4 (b + n) = J2 b := fun b => by simp only [J4]; rw [if_neg (by omega)]; congr 1; omega
 have hfresh : ∀ b bb, J2 b = some bb → w.heap.size ≤ bb.B := by
  intro b bb hJ2
  obtain ⟨pb, hp, hB⟩ := hS5.mem.blk b bb hJ2
  obtain ⟨m, e1, e2⟩ := memPut_own r.mem _ b pb hp
  exact (hB.own (by rw [e2]; exact hown m (List.mem_of_getElem? e1))).1
 have hle : J.le J4 := by
  intro b bb hJ
  have := hm.lt hJ
  simp only [J4]
  rw [if_pos (by exact this)]
  exact hJ
 refine ⟨_, shiftMem n (r.put o).mem, J4, hk, ⟨hle, fun b hb => ?_, fun b bb hb hJ => ?_⟩, ?_, ?_⟩
 ·simp only [J4]; rw [if_pos (by exact hb)]
 ·simp only [J4] at hJ
  rw [if_neg (by show ¬ b < mem.length; omega)] at hJ
  exact hfresh _ _ hJ
 ·exact hjoin J4 _ (renPs_rel hJ4 hres2) (renPs_v _ _ (slPut_v r.sl o))
 ·refine hm.grow hle hS5.below.size (fun k hk => hS5.below.block k hk) ?_ ?_ ?_
  ·intro b bb hb hJ
   simp only [J4] at hJ
   rw [if_pos (by exact hb)] at hJ
   exact hJ
  ·intro b bb hb hJ
   simp only [J4] at hJ
   rw [if_neg (by show ¬ b < mem.length; omega)] at hJ
   refine ⟨hfresh _ _ hJ, ?_⟩
   obtain ⟨pb, hp, hB⟩ := hS5.mem.blk _ bb hJ
   refine ⟨_, by rw [shiftMem_get]; show Option.map _ ((r.put o).mem[b - mem.length]?) = _; rw [show b - mem.length = b - n from rfl, hp]; rfl, ?_⟩
   refine ⟨by rw [hB.esz]; exact (renL_length _ _).symm, hB.flat, hB.there, fun rr hr c hc => ?_, fun ho => ?_⟩
   ·obtain ⟨z, hz, hrel⟩ := hB.cell rr hr c hc
    refine ⟨z, hz, ?_⟩
    simp only
    have hlt : c < pb.cols.length := by rw [← hB.esz]; exact hc
    have e1 : (LV.renL (· + n) pb.cols).getD c .unk = (pb.cols.getD c .unk).ren (· + n) := by
     simp only [List.getD, renL_get]
     simp [hlt]
    rw [e1, LV.ren_row]
    exact hrel.ren (ids := (((pb.cols.getD c .unk).row rr)).refs) (fun b _ => hJ4 b) (fun _ h => h)
   ·obtain ⟨k1, k2⟩ := hB.own ho
    exact ⟨Nat.le_trans hbase k1, k2⟩
  ·intro b b' bb bb' pb hb hb' hp ho hJ hJ' hne
   simp only [J4] at hJ hJ'
   rw [if_neg (by show ¬ b < mem.length; omega)] at hJ
   rw [if_neg (by show ¬ b' < mem.length; omega)] at hJ'
   rw [shiftMem_get] at hp
   obtain ⟨pb0, e1, e2⟩ := Option.map_eq_some_iff.1 hp
   subst e2
   exact hS5.mem.apart (b - n) (b' - n) bb bb' pb0 e1 ho hJ hJ' (by omega)
end Go.Sy
