/- The evaluator. -/
import Derived.Test.YtjmbhhinmbgneaaGreatSzApp
import Derived.Tactics
namespace Go.Sy
open Go.RowKit (Below)
def HdOk (P : Program) {β : Type} (hd : Hd β) : Prop :=
 ∀ (ctx : List Nat) (f : FuncId) (args : List PV) (s : St) (K : PV → St → Option β) (x : β), hd ctx f args s K = some x →
  ∀ (base : Nat) (w0 : World) (J : Inj) (tmps : Array Value) (lows : List (Array Value)) (w : World) (vals : List Value), RelS base w0 J s tmps lows w → RelPs J args vals →
   FnOk P f ∧ Calls P f vals.toArray w fun e w' => ∃ v, e = .returned v ∧ ∃ J' pv s', K pv s' = some x ∧ RelS base w0 J' s' tmps lows w' ∧ RelP J' pv v
section
variable {β : Type} {P : Program} {E : Env} {hd : Hd β} {x : β} {base : Nat} {w0 : World} {lows : List (Array Value)} {Q : Exit → Act → World → Prop}
theorem RelS.grow {J J' : Inj} {s : St} {tmps : Array Value} {w w' : World} (h : RelS base w0 J s tmps lows w) {new : List PBlk} (hj : Ext J J' s.mem.length w) (hm : RelM base J' (s.mem ++ new) w') (hb : Below w.heap.size w w') :
  RelS base w0 J' { s with mem := s.mem ++ new } tmps lows w' :=
 ⟨h.fr.mono hj.le, h.low.mono hj.le, hm, h.below.trans (hb.mono h.base), Nat.le_trans h.base hb.size⟩
theorem op_sound (hT : EnvT P E) (hH : HdOk P hd) {ctx : List Nat} {o : Oper} {s : St} {K : PV → St → Option β} (h : exOp E hd ctx o.op s K = some x)
  {J : Inj} {a : Act} {w : World} (hS : RelS base w0 J s a.tmps lows w) {next : Act → World → Prop}
  (hK : ∀ v pv s' J' w', K pv s' = some x → RelS base w0 J' s' a.tmps lows w' → RelP J' pv v → next (a.put o.dst v) w') : o.wp P a w next Q := by
 have hev : ∀ y, RelP J (s.eval y) (a.eval y) := fun y => hS.fr.eval y
 by_cases hq : quietOp E o = true
 ·refine (quiet_sound (R := fun v w' => next (a.put o.dst v) w') hT hq (fun y _ => hev y) hS.mem hS.base ?_ h).wp fun v w' h => h
  intro v pv new J' w' hk hj hm hb hrv
  exact hK v pv _ J' w' hk (hS.grow hj hm hb) hrv
 ·cases ho : o.op <;> rw [ho] at h <;> (try (simp only [exOp] at h; cases h; done)) <;> (try (exfalso; apply hq; unfold quietOp; rw [ho]; done))
  case binOp op t y z t' =>
   rw [← ho] at h
   refine (quiet_binOp (R := fun v w' => next (a.put o.dst v) w') hT ho (fun y _ => hev y) hS.mem ?_ h).wp fun v w' h => h
   intro v pv new J' w' hk hj hm hb hrv
   exact hK v pv _ J' w' hk (hS.grow hj hm hb) hrv
  case store t y z =>
   simp only [exOp] at h
   split at h
   ·rename_i blk row off sym he
    obtain ⟨v1, h1, h⟩ := bind_some' h
    obtain ⟨ls, h2, h⟩ := bind_some' h
    obtain ⟨pb, h3, h⟩ := bind_some' h
    obtain ⟨h4, h⟩ := cond_some h
    obtain ⟨pb', h5, h6⟩ := bind_some' h
    simp only [Bool.and_eq_true] at h4
    have hlen := nat_beq h4.1.2
    have hy := hev y
    rw [he] at hy
    generalize hcy : a.eval y = vy at hy
    cases hy with
    | p hJ hr hs =>
     rename_i bb
     have hz := hev z
     cases hez : s.eval z with
     | tup _ => rw [hez] at h1; cases h1
     | v u =>
      rw [hez] at h1 hz
      simp only [PV.one, Option.some.injEq] at h1
      subst h1
      have hcells := Rel1.cells hz h2
      have hones := Rel1.oneCells hz h2
      obtain ⟨pb0, hpb0, hB⟩ := hS.mem.blk blk bb hJ
      rw [h3] at hpb0
      cases hpb0
      obtain ⟨hbase, hfz, _, _⟩ := hB.own h4.1.1
      obtain ⟨k1, k2⟩ := wrCells_rel hJ hr hs ls (a.eval z).cells.toList s.mem w pb pb' off hS.mem h3 h4.1.1 hcells h5
      obtain ⟨⟨i, hi, hsz, _⟩, _⟩ := hT.ti t h4.2
      have hsize : (a.eval z).cells.size = i.size := by
       have := hcells.length
       simp only [Array.length_toList] at this
       omega
      have hrun : (execOp a.eval o).run P w = .ok .skip (w.setCells bb.B (bb.o + row * bb.esz + off + symOff sym) (a.eval z).cells.toList) := by
       have := run_storeCells_cells (P := P) bb.B (bb.o + row * bb.esz + off + symOff sym) (a.eval z).cells.toList 0 w (fun j hj => by simpa using k2 j hj) (fun j _ => hfz _) hones
       simp only [Nat.add_zero] at this
       simp only [execOp, ho, hcy, Instr.storeAt, Instr.sureAddr, storeVar, Sem.run_bind, Sem.run_pure, Result.andThen_ok, run_sizeOf hi, Sem.run_ite, if_neg (show ¬ (a.eval z).cells.size ≠ i.size by simp [hsize]), this]
      unfold Oper.wp
      rw [hrun]
      refine hK undef (.s .unk) _ J _ h6 ⟨hS.fr, hS.low, k1, below_setCells _ hbase _ _ _ hS.below, by rw [size_setCells]; exact hS.base⟩ (RelP.unk _ _)
   ·cases h
  case call c =>
   cases hc : c.callee with
   | builtin b =>
    by_cases hb : b = .append
    ·subst hb
     exact append_wp hT hc ho h hS hK
    ·simp only [exOp, hc] at h
     cases b <;> (try (cases h; done)) <;> (try exact absurd rfl hb) <;> (exfalso; apply hq; unfold quietOp; rw [ho]; simp only [hc])
   | invoke r m => simp only [exOp, hc] at h; cases h
   | value y =>
    simp only [exOp, hc] at h
    split at h
    ·rename_i f k cap he
     have hv : Evals J s a.eval (.call c) := fun y _ => hev y
     split at h
     ·rename_i fo hl
      have hd' := quiet_call (ρ := a.eval) (K := K) (R := fun v w' => next (a.put o.dst v) w') (o := o) hT hc ho (by rw [ho]; exact hv) hS.mem hS.base (fun v pv new J' w' hk hj hm hb hrv => hK v pv _ J' w' hk (hS.grow hj hm hb) hrv) he hl h
      exact hd'.wp fun v w' h => h
     ·rename_i hl
      obtain ⟨vals0, _, hvals0⟩ := call_run (P := P) (w := w) (ρ := a.eval) hc ho hv he
      obtain ⟨hfn, _⟩ := hH ctx f _ s K x h base w0 J a.tmps lows w vals0 hS hvals0
      obtain ⟨vals, hrun, hvals⟩ := call_shape (w := w) hc ho hv he hfn
      obtain ⟨_, hcalls⟩ := hH ctx f _ s K x h base w0 J a.tmps lows w vals hS hvals
      unfold Oper.wp
      rw [hrun]
      refine hcalls.mono fun e w' ⟨v, hev', J', pv, s', hk, hS', hrv⟩ => ?_
      subst hev'
      exact hK v pv s' J' w' hk hS' hrv
    ·cases h
theorem yielded_get {ops : Array Oper} {j t : Nat} (hj : (ops[j]?).bind (·.dst) = some t) {s : St} {J : Inj} {tmps : Array Value} (hF : RelF J s.fr tmps) {b : Bool} (hg : s.get t = .v (.sc (.b0 b))) :
  yielded ops tmps j = some b ∧ tmps[t]? = some (.bool b) := by
 unfold St.get at hg
 cases hl : lookN t s.fr.sl with
 | none => rw [hl] at hg; simp at hg
 | some y =>
  rw [hl] at hg
  simp only [Option.getD_some] at hg
  subst hg
  obtain ⟨v, hv, hr⟩ := hF.2 t _ hl
  cases hr
  refine ⟨?_, hv⟩
  unfold yielded
  rw [hj]
  simp [hv]
theorem relP_undef {J : Inj} {v : Value} (h : RelP J (.tup []) v) : v = undef := by
 obtain ⟨us, rfl, hr⟩ := h
 have : us.toList = [] := by
  cases hq : us.toList with
  | nil => rfl
  | cons a b => rw [hq] at hr; cases hr
 have e : us = #[] := by apply Array.ext'; simpa using this
 rw [e]
 rfl
theorem RelP.undef (J : Inj) : RelP J (.tup []) undef := ⟨#[], rfl, trivial⟩
theorem yielded_undef {ops : Array Oper} {j t : Nat} (hj : (ops[j]?).bind (·.dst) = some t) {s : St} {J : Inj} {tmps : Array Value} (hF : RelF J s.fr tmps) (hg : s.get t = .tup []) : yielded ops tmps j = none := by
 unfold St.get at hg
 cases hl : lookN t s.fr.sl with
 | none => rw [hl] at hg; simp at hg
 | some y =>
  rw [hl] at hg
  simp only [Option.getD_some] at hg
  subst hg
  obtain ⟨v, hv, hr⟩ := hF.2 t _ hl
  have := relP_undef hr
  subst this
  unfold yielded
  rw [hj]
  simp [hv, Go.undef]
theorem RelS.reput {s s' : St} {J : Inj} {tmps : Array Value} {w : World} (hS : RelS base w0 J s tmps lows w) {t : Nat} {b : Bool} (hv : tmps[t]? = some (.bool b)) (h : s.put (some t) (.s (.b0 b)) = some s') :
  RelS base w0 J s' tmps lows w := by
 simp only [St.put] at h
 obtain ⟨_, h⟩ := cond_some h
 injection h with h
 subst h
 refine ⟨⟨hS.fr.1, fun u y hy => ?_⟩, hS.low, hS.mem, hS.below, hS.base⟩
 rw [lookN_cons] at hy
 split at hy
 ·rename_i e
  subst e
  cases hy
  exact ⟨_, hv, Rel.b0 b⟩
 ·exact hS.fr.2 u y hy
theorem put_defers (a : Act) (d : Option Tmp) (v : Value) : (a.put d v).defers = a.defers := by cases d <;> rfl
theorem ops_sound (hT : EnvT P E) (hH : HdOk P hd) {ctx : List Nat} {ops : Array Oper} {K : St → Option β} {ds : List Deferred}
  (hK : ∀ s' J' a' w', K s' = some x → RelS base w0 J' s' a'.tmps lows w' → a'.defers = ds → Q .normal a' w') :
  ∀ (rest : List Oper) (i : Nat) (s : St) (J : Inj) (a : Act) (w : World), exOps E hd ctx ops.toList i rest s K = some x → RelS base w0 J s a.tmps lows w → a.defers = ds → wpList P ops Q rest a w
 | [], _, s, J, a, w, h, hS, hd' => hK s J a w h hS hd'
 | o :: rest, i, s, J, a, w, h, hS, hd' => by
  have hgo : ∀ s1, RelS base w0 J s1 a.tmps lows w → (exOp E hd (i :: ctx) o.op s1 fun v s' => (s'.put o.dst v).bind fun s'' => exOps E hd ctx ops.toList (i + 1) rest s'' K) = some x →
    o.wp P a w (wpList P ops Q rest) Q := by
   intro s1 hS1 h1
   refine op_sound hT hH h1 hS1 fun v pv s' J' w' hk hS' hrv => ?_
   obtain ⟨s'', h2, h3⟩ := bind_some' hk
   exact ops_sound hT hH hK rest (i + 1) s'' J' (a.put o.dst v) w' h3 (hS'.put hrv h2) (by rw [put_defers]; exact hd')
  have hpass : ∀ s1, RelS base w0 J s1 a.tmps lows w → ((s1.put o.dst (.tup [])).bind fun s'' => exOps E hd ctx ops.toList (i + 1) rest s'' K) = some x →
    wpList P ops Q rest (a.put o.dst undef) w := by
   intro s1 hS1 h1
   obtain ⟨s'', h2, h3⟩ := bind_some' h1
   exact ops_sound hT hH hK rest (i + 1) s'' J (a.put o.dst undef) w h3 (hS1.put (RelP.undef J) h2) (by rw [put_defers]; exact hd')
  simp only [exOps] at h
  unfold wpList
  split at h
  ·rename_i hg
   rw [if_pos (by simp [Region.wanted, hg])]
   exact .inl (hgo s hS h)
  ·rename_i j want hg
   split at h
   ·rename_i t ht
    split at h
    ·rename_i b hb
     obtain ⟨hy, hv⟩ := yielded_get (by rw [← ht, Array.getElem?_toList]) hS.fr hb
     cases b with
     | true =>
      simp only [cond_true] at h
      obtain ⟨s1, h1, h2⟩ := bind_some' h
      have hS1 := hS.reput hv h1
      cases want with
      | true =>
       rw [if_pos (by simp [Region.wanted, hg, hy])]
       exact .inl (hgo s1 hS1 h2)
      | false =>
       rw [if_neg (by simp [Region.wanted, hg, hy])]
       exact hpass s1 hS1 h2
     | false =>
      simp only [cond_false] at h
      obtain ⟨s1, h1, h2⟩ := bind_some' h
      have hS1 := hS.reput hv h1
      cases want with
      | true =>
       rw [if_neg (by simp [Region.wanted, hg, hy])]
       exact hpass s1 hS1 h2
      | false =>
       rw [if_pos (by simp [Region.wanted, hg, hy])]
       exact .inl (hgo s1 hS1 h2)
    ·rename_i hb
     have hy := yielded_undef (by rw [← ht, Array.getElem?_toList]) hS.fr hb
     rw [if_neg (by simp [Region.wanted, hg, hy])]
     exact hpass s hS h
    ·cases h
   ·cases h
def LOok (P : Program) (body : Code) (lo : LO) : Prop :=
 ∀ (β : Type) (s : St) (kx : Nat → St → Option β) (kr : St → Option β) (x : β), lo β s kx kr = some x →
  ∀ (base : Nat) (w0 : World) (J : Inj) (a : Act) (lows : List (Array Value)) (w : World) (Q : Exit → Act → World → Prop), RelS base w0 J s a.tmps lows w →
   (∀ id s' J' a' w', kx id s' = some x → RelS base w0 J' s' a'.tmps lows w' → a'.defers = a.defers → Q (.exit id) a' w') →
   (∀ s' J' a' w', kr s' = some x → RelS base w0 J' s' a'.tmps lows w' → a'.defers = a.defers → Q .ret a' w') → (Code.loop body).wp P Q a w
def DrawOk (P : Program) (E : Env) : Prop :=
 ∀ (β : Type) (hd : Hd β), HdOk P hd → ∀ (x : β) (base : Nat) (w0 : World) (lows : List (Array Value)) (Q : Exit → Act → World → Prop) (ctx : List Nat) (id : Nat) (ops : Array Oper) (K : St → Option β) (s : St) (J : Inj) (a : Act) (w : World),
  exDraw E hd ctx ops s K = some x → RelS base w0 J s a.tmps lows w →
  (∀ s' J' a' w', K s' = some x → RelS base w0 J' s' a'.tmps lows w' → a'.defers = a.defers → Q .normal a' w') → (Code.region id ops true).wp P Q a w
theorem code_sound (hT : EnvT P E) (hH : HdOk P hd) (hD : DrawOk P E) {ctx : List Nat} {ds : List Deferred} :
  ∀ (c : Code) (s : St) (kn : St → Option β) (kx : Nat → St → Option β) (kr : St → Option β) (J : Inj) (a : Act) (w : World) (Q : Exit → Act → World → Prop),
   (∀ body ∈ loopsIn c, ∀ lo, lookLO (firstRegion body :: ctx) E.loops = some lo → LOok P body lo) →
   exC E hd ctx c s kn kx kr = some x → RelS base w0 J s a.tmps lows w → a.defers = ds →
   (∀ s' J' a' w', kn s' = some x → RelS base w0 J' s' a'.tmps lows w' → a'.defers = ds → Q .normal a' w') →
   (∀ id s' J' a' w', kx id s' = some x → RelS base w0 J' s' a'.tmps lows w' → a'.defers = ds → Q (.exit id) a' w') →
   (∀ s' J' a' w', kr s' = some x → RelS base w0 J' s' a'.tmps lows w' → a'.defers = ds → Q .ret a' w') → c.wp P Q a w := by
 intro c
 induction c with
 | skip => intro s kn kx kr J a w Q hl h hS hd' hn hx hr; exact wp_skip (hn s J a w h hS hd')
 | label l => intro s kn kx kr J a w Q hl h hS hd' hn hx hr; exact wp_label (hn s J a w h hS hd')
 | region id ops draw =>
  intro s kn kx kr J a w Q hl h hS hd' hn hx hr
  simp only [exC] at h
  cases draw with
  | false => exact wp_region_list (ops_sound hT hH hn ops.toList 0 s J a w h hS hd')
  | true =>
   subst hd'
   exact hD β hd hH x base w0 lows Q (id :: ctx) id ops kn s J a w h hS hn
 | seq p q ihp ihq =>
  intro s kn kx kr J a w Q hl h hS hd' hn hx hr
  simp only [exC] at h
  refine wp_seq (ihp s _ kx kr J a w _ (fun b hb => hl b (by simp [loopsIn, hb])) h hS hd' ?_ ?_ ?_)
  ·intro s' J' a' w' hk hS' hd''
   exact ihq s' kn kx kr J' a' w' Q (fun b hb => hl b (by simp [loopsIn, hb])) hk hS' hd'' hn hx hr
  ·exact hx
  ·exact hr
 | cond t p q ihp ihq =>
  intro s kn kx kr J a w Q hl h hS hd' hn hx hr
  simp only [exC] at h
  split at h
  ·rename_i b he
   have hv := hS.fr.eval t (s := s) (a := a)
   rw [he] at hv
   generalize hcv : a.eval t = vt at hv
   cases hv
   cases b with
   | true => exact wp_cond_true hcv (ihp s kn kx kr J a w Q (fun b hb => hl b (by simp [loopsIn, hb])) h hS hd' hn hx hr)
   | false => exact wp_cond_false hcv (ihq s kn kx kr J a w Q (fun b hb => hl b (by simp [loopsIn, hb])) h hS hd' hn hx hr)
  ·cases h
 | block id p ih =>
  intro s kn kx kr J a w Q hl h hS hd' hn hx hr
  simp only [exC] at h
  refine wp_block (ih s kn _ kr J a w _ (fun b hb => hl b (by simpa [loopsIn] using hb)) h hS hd' ?_ ?_ ?_)
  ·exact hn
  ·intro j s' J' a' w' hk hS' hd''
   show (if j = id then Q .normal a' w' else Q (.exit j) a' w')
   by_cases e : j = id
   ·subst e
    rw [if_pos rfl]
    rw [show Nat.beq j j = true from Nat.beq_refl j] at hk
    exact hn s' J' a' w' hk hS' hd''
   ·rw [if_neg e]
    rw [beq_ne e] at hk
    exact hx j s' J' a' w' hk hS' hd''
  ·exact hr
 | loop p ih =>
  intro s kn kx kr J a w Q hl h hS hd' hn hx hr
  simp only [exC] at h
  split at h
  ·rename_i lo hlo
   subst hd'
   exact hl p (by simp [loopsIn]) lo hlo β s kx kr x h base w0 J a lows w Q hS hx hr
  ·cases h
 | exit id => intro s kn kx kr J a w Q hl h hS hd' hn hx hr; exact wp_exit (hx id s J a w h hS hd')
 | ret => intro s kn kx kr J a w Q hl h hS hd' hn hx hr; exact wp_ret (hr s J a w h hS hd')
 | _ => intro s kn kx kr J a w Q hl h hS hd' hn hx hr; cases h
theorem loopsIn_trans {b : Code} : ∀ (c : Code) {p : Code}, p ∈ loopsIn c → b ∈ loopsIn p → b ∈ loopsIn c := by
 intro c
 induction c with
 | loop q ih =>
  intro p hp hb
  simp only [loopsIn, List.mem_cons] at hp ⊢
  rcases hp with rfl | hp
  ·exact .inr hb
  ·exact .inr (ih hp hb)
 | seq x y ihx ihy =>
  intro p hp hb
  simp only [loopsIn, List.mem_append] at hp ⊢
  exact hp.imp (fun h => ihx h hb) (fun h => ihy h hb)
 | cond t x y ihx ihy =>
  intro p hp hb
  simp only [loopsIn, List.mem_append] at hp ⊢
  exact hp.imp (fun h => ihx h hb) (fun h => ihy h hb)
 | block id x ih => intro p hp hb; exact ih hp hb
 | _ => intro p hp hb; simp [loopsIn] at hp
theorem zipN_look : ∀ (xs : List PV) (i t : Nat) (y : PV), lookN t (zipN i xs) = some y → i ≤ t ∧ xs[t - i]? = some y
 | [], _, _, _, h => by simp [zipN, lookN] at h
 | z :: r, i, t, y, h => by
  simp only [zipN] at h
  rw [lookN_cons] at h
  split at h
  ·rename_i e
   subst e
   cases h
   simp
  ·obtain ⟨h1, h2⟩ := zipN_look r (i + 1) t y h
   refine ⟨by omega, ?_⟩
   rw [show t - i = (t - (i + 1)) + 1 by omega]
   simpa using h2
theorem RelPs.get {J : Inj} : ∀ {ls : List PV} {vs : List Value}, RelPs J ls vs → ∀ (i : Nat) (l : PV), ls[i]? = some l → ∃ v, vs[i]? = some v ∧ RelP J l v
 | [], [], _, _, _, h => by simp at h
 | l :: ls, v :: vs, ⟨a, b⟩, 0, x, h => by simp at h; subst h; exact ⟨v, rfl, a⟩
 | l :: ls, v :: vs, ⟨a, b⟩, i + 1, x, h => by simp at h; simpa using RelPs.get b i x h
theorem enter_rel {J : Inj} {fn : Func} {args : List PV} {vals : List Value} {fr : Fr} (h : enterFr fn args = some fr) (hr : RelPs J args vals) :
  RelF J fr (vals.toArray ++ Array.replicate (fn.ntmps - vals.toArray.size) undef) := by
 unfold enterFr at h
 obtain ⟨h1, h2⟩ := cond_some h
 have h1 := nat_ble h1
 injection h2 with h2
 subst h2
 have hl := hr.length
 refine ⟨by simp; omega, fun t y hy => ?_⟩
 obtain ⟨_, h3⟩ := zipN_look args 0 t y hy
 simp only [Nat.sub_zero] at h3
 obtain ⟨v, hv, hrel⟩ := hr.get t y h3
 refine ⟨v, ?_, hrel⟩
 have hlt : t < vals.length := (List.getElem?_eq_some_iff.1 hv).1
 rw [Array.getElem?_append_left (by simpa using hlt)]
 simpa using hv
theorem resVals_rel {base : Nat} (hT : EnvT P E) {J : Inj} {s : St} {tmps : Array Value} (hF : RelF J s.fr tmps) {w : World} (hm : RelM base J s.mem w) : ∀ (rs : List ResultVar) (vs : List V1), resVals E s rs = some vs →
  ∃ us : List Value, (rs.mapM fun r => (match r with | .tmp t => pure (tmps.getD t undef) | .cell a t => do loadVar t (← asAddr (tmps.getD a undef)) : Sem Value)).run P w = .ok us w ∧ Rel1s J vs us
 | [], vs, h => by simp [resVals] at h; subst h; exact ⟨[], by simp, trivial⟩
 | r :: rs, vs, h => by
  simp only [resVals] at h
  obtain ⟨v, h1, h2⟩ := bind_some' h
  obtain ⟨q, h3, h4⟩ := Option.map_eq_some_iff.1 h2
  subst h4
  obtain ⟨us, hu, hr⟩ := resVals_rel hT hF (w := w) hm rs q h3
  cases r with
  | cell a t =>
   simp only [resOne] at h1
   have hg := hF.get a
   change RelP J (s.get a) _ at hg
   split at h1
   ·rename_i blk row off sym he
    rw [he] at hg
    obtain ⟨pb, hpb, h5⟩ := bind_some' h1
    obtain ⟨h6, h7⟩ := cond_some h5
    simp only [Bool.and_eq_true] at h6
    have hle := nat_ble h6.2
    have hg' : Rel J (.p blk row off sym) (tmps.getD a undef) := hg
    have haddr : ∃ ad, tmps.getD a undef = .pointer (some ad) := by
     generalize tmps.getD a undef = vv at hg'
     cases hg'
     exact ⟨_, rfl⟩
    obtain ⟨ad, had⟩ := haddr
    have fin : ∀ u : Value, (Instr.loadAt t (tmps.getD a undef)).run P w = .ok u w → Rel1 J v u →
      ∃ us : List Value, ((ResultVar.cell a t :: rs).mapM fun r => (match r with | .tmp t => pure (tmps.getD t undef) | .cell a t => do loadVar t (← asAddr (tmps.getD a undef)) : Sem Value)).run P w = .ok us w ∧ Rel1s J (v :: q) us := by
     intro u hu' hrel
     refine ⟨u :: us, ?_, hrel, hr⟩
     rw [had] at hu'
     have hl : (loadVar t ad).run P w = .ok u w := by simpa [Instr.loadAt, Instr.sureAddr] using hu'
     have hasA : (asAddr (.pointer (some ad)) : Sem Addr) = pure ad := rfl
     simp only [List.mapM_cons, Sem.run_bind, had, hasA, Sem.run_pure, Result.andThen_ok, hl, hu]
    cases ha : (E.ti t).kind.agg with
    | true =>
     rw [ha] at h7
     simp only [cond_true, Option.some.injEq] at h7
     obtain ⟨u, hu', hA, _⟩ := run_load_rel hm (hT.ti t) hg' hpb h6.1 hle (fun e => by rw [ha] at e; cases e)
     exact fin u hu' (h7 ▸ hA ha)
    | false =>
     rw [ha] at h7
     simp only [cond_false] at h7
     obtain ⟨h8, h9⟩ := cond_some h7
     injection h9 with h9
     obtain ⟨u, hu', _, hA⟩ := run_load_rel hm (hT.ti t) hg' hpb h6.1 hle (fun _ => nat_beq h8)
     exact fin u hu' (h9 ▸ hA ha)
   ·cases h1
  | tmp t =>
   simp only [resOne] at h1
   have hg := hF.get t
   change RelP J (s.get t) _ at hg
   cases he : s.get t with
   | tup _ => rw [he] at h1; cases h1
   | v u =>
    rw [he] at h1 hg
    simp only [PV.one, Option.some.injEq] at h1
    subst h1
    refine ⟨tmps.getD t undef :: us, ?_, hg, hr⟩
    simp only [List.mapM_cons, Sem.run_bind, Sem.run_pure, Result.andThen_ok, hu]
theorem Rel1s.length {J : Inj} : ∀ {ls : List V1} {vs : List Value}, Rel1s J ls vs → ls.length = vs.length
 | [], [], _ => rfl
 | _ :: _, _ :: _, ⟨_, b⟩ => by simp [Rel1s.length b]
theorem resOf_rel {base : Nat} (hT : EnvT P E) {J : Inj} {fn : Func} {s : St} {tmps : Array Value} (hF : RelF J s.fr tmps) {w : World} (hm : RelM base J s.mem w) {pv : PV} (h : resOf E fn s = some pv) :
  ∃ v, (results fn tmps).run P w = .ok v w ∧ RelP J pv v := by
 unfold resOf at h
 obtain ⟨vs, h1, h2⟩ := bind_some' h
 obtain ⟨us, hu, hr⟩ := resVals_rel (P := P) (w := w) hT hF hm _ _ h1
 have hrun : (fn.results.mapM fun r => (match r with | .tmp t => pure (tmps.getD t undef) | .cell a t => do loadVar t (← asAddr (tmps.getD a undef)) : Sem Value)).run P w = .ok us.toArray w := by
  rw [Array.mapM_eq_mapM_toList]
  simp only [Sem.run_map, hu, Result.andThen_ok]
 split at h2
 ·rename_i v
  injection h2 with h2
  subst h2
  cases us with
  | nil => cases hr
  | cons u us =>
   cases us with
   | cons _ _ => cases hr.2
   | nil =>
    refine ⟨u, ?_, hr.1⟩
    unfold results
    simp only [Sem.run_bind]
    erw [hrun]
    simp
 ·rename_i hne
  injection h2 with h2
  subst h2
  refine ⟨.tuple us.toArray, ?_, _, rfl, by simpa using hr⟩
  unfold results
  simp only [Sem.run_bind]
  erw [hrun]
  have hlen : us.toArray.size ≠ 1 := by
   intro e
   have : vs.length = us.length := Rel1s.length hr
   simp at e
   rw [e] at this
   match vs, this with
   | [v], _ => exact hne v rfl
  simp only [Result.andThen_ok, Sem.run_pure]
  rw [dif_neg hlen]
theorem fn_sound (hT : EnvT P E) (hH : HdOk P hd) (hD : DrawOk P E) {ctx : List Nat} {f : FuncId} {fn : Func} (hf : P.funcs[f]? = some fn)
  (hl : ∀ c, fn.body = some c → ∀ body ∈ loopsIn c, ∀ lo, lookLO (firstRegion body :: ctx) E.loops = some lo → LOok P body lo)
  {args : List PV} {s : St} {K : PV → St → Option β} (h : exFn E hd ctx fn args s K = some x) {J : Inj} {tmps : Array Value} {w : World} {vals : List Value}
  (hS : RelS base w0 J s tmps lows w) (hv : RelPs J args vals) :
  Calls P f vals.toArray w fun e w' => ∃ v, e = .returned v ∧ ∃ J' pv s', K pv s' = some x ∧ RelS base w0 J' s' tmps lows w' ∧ RelP J' pv v := by
 unfold exFn at h
 split at h
 ·rename_i c hc
  obtain ⟨fr, h1, h2⟩ := bind_some' h
  refine calls_of_wp hf hc ?_
  have hS' : RelS base w0 J { fr, low := s.fr :: s.low, mem := s.mem } (vals.toArray ++ Array.replicate (fn.ntmps - vals.toArray.size) undef) (tmps :: lows) w :=
   ⟨enter_rel h1 hv, ⟨hS.fr, hS.low⟩, hS.mem, hS.below, hS.base⟩
  have hret : ∀ s' J' (a' : Act) w', ((resOf E fn s').bind fun v => match s'.low with | f :: low => K v { fr := f, low, mem := s'.mem } | [] => none) = some x →
    RelS base w0 J' s' a'.tmps (tmps :: lows) w' → a'.defers = [] →
    a'.defers = [] ∧ ∃ v, (results fn a'.tmps).run P w' = .ok v w' ∧ ∃ v', Ending.returned v = .returned v' ∧ ∃ J' pv s', K pv s' = some x ∧ RelS base w0 J' s' tmps lows w' ∧ RelP J' pv v' := by
   intro s' J' a' w' hk hS'' hd
   obtain ⟨pv, h3, h4⟩ := bind_some' hk
   obtain ⟨v, hv1, hv2⟩ := resOf_rel (P := P) (w := w') hT hS''.fr hS''.mem h3
   refine ⟨hd, v, hv1, v, rfl, J', pv, ?_⟩
   have hlow := hS''.low
   split at h4
   ·rename_i g low hlw
    rw [hlw] at hlow
    exact ⟨_, h4, ⟨hlow.1, hlow.2, hS''.mem, hS''.below, hS''.base⟩, hv2⟩
   ·cases h4
  refine code_sound (ds := []) hT hH hD c _ _ _ _ J _ w _ (hl c hc) h2 hS' rfl ?_ ?_ ?_
  ·intro s' J' a' w' hk hS'' hd
   exact hret s' J' a' w' hk hS'' hd
  ·intro id s' J' a' w' hk _ _; cases hk
  ·intro s' J' a' w' hk hS'' hd
   exact hret s' J' a' w' hk hS'' hd
 ·cases h
end
structure EnvI (P : Program) (E : Env) : Prop where
 inl : ∀ f fn, lookN f E.inl = some fn → P.funcs[f]? = some fn ∧ FnOk P f
 loops : ∀ (f : FuncId) (fn : Func) (c : Code) (ctx : List Nat), P.funcs[f]? = some fn → fn.body = some c → ∀ body ∈ loopsIn c, ∀ lo, lookLO (firstRegion body :: f :: ctx) E.loops = some lo → LOok P body lo
theorem hdl_ok {P : Program} {E : Env} (hT : EnvT P E) (hI : EnvI P E) (hD : DrawOk P E) {β : Type} : ∀ d, HdOk P (hdl (β := β) E d)
 | 0 => by intro ctx f args s K x h; cases h
 | d + 1 => by
  intro ctx f args s K x h base w0 J tmps lows w vals hS hv
  simp only [hdl] at h
  split at h
  ·rename_i fn hf
   obtain ⟨h1, h2⟩ := hI.inl f fn hf
   exact ⟨h2, fn_sound hT (hdl_ok hT hI hD d) hD h1 (fun c hc => hI.loops f fn c ctx h1 hc) h hS hv⟩
  ·cases h
end Go.Sy
