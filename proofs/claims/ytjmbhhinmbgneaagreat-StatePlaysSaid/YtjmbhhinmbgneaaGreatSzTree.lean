/- The evaluator. -/
import Derived.Test.YtjmbhhinmbgneaaGreatSzMix
namespace Go.Sy
open Go.RowKit (Below)
section
variable {β : Type} {P : Program} {E : Env} {hd : Hd β} {x : β} {base : Nat} {w0 : World} {lows : List (Array Value)} {Q : Exit → Act → World → Prop}
theorem pure_yields {ctx : List Nat} {o : Oper} {s : St} {J : Inj} {ρ : Operand → Value} {K0 : PV → St → Option β} (hp : pureOp o = true) (h : exOp E hd ctx o.op s K0 = some x) (hv : Evals J s ρ o.op) :
  ∃ pv v, (∀ K : PV → St → Option β, exOp E hd ctx o.op s K = K pv s) ∧ RelP J pv v ∧ ∀ w, (execOp ρ o).run P w = .ok (.value v) w := by
 unfold pureOp at hp
 cases ho : o.op <;> rw [ho] at hp h hv <;> (try (cases hp; done))
 case move y => exact ⟨s.eval y, ρ y, fun K => by simp only [exOp], hv y (by simp [Op.operands]), fun w => by simp [execOp, ho]⟩
 case assign y => exact ⟨s.eval y, ρ y, fun K => by simp only [exOp], hv y (by simp [Op.operands]), fun w => by simp [execOp, ho]⟩
 case extract y i =>
  have hy := hv y (by simp [Op.operands])
  simp only [exOp] at h
  split at h
  ·rename_i vs e1
   rw [e1] at hy
   generalize hcy : ρ y = vy at hy
   obtain ⟨us, rfl, hr⟩ := hy
   split at h
   ·rename_i v hvi
    obtain ⟨u, hu, hrel⟩ := hr.get i v hvi
    rw [Array.getElem?_toList] at hu
    exact ⟨.v v, u, fun K => by simp only [exOp, e1, hvi], hrel, fun w => by simp [execOp, ho, hcy, Instr.extract, hu]⟩
   ·cases h
  ·cases h
 case makeFunc f first captured =>
  simp only [exOp] at h
  split at h
  ·rename_i g
   obtain ⟨fs, h1, h2⟩ := bind_some' h
   obtain ⟨cs, h3, h4⟩ := bind_some' h2
   have hr1 := evalCells_rel (J := J) (ρ := ρ) h1 (fun y hy => hv y (by simp [Op.operands]; left; simpa using hy))
   have hr2 := evalCells_rel (J := J) (ρ := ρ) h3 (fun y hy => hv y (by simp [Op.operands]; right; simpa using hy))
   have hr := hr1.append hr2
   refine ⟨.s (.fn g fs.length (fs ++ cs)), .func (.func g) (first.map ρ) (captured.map ρ), fun K => by simp only [exOp, h1, h3, Option.bind_some], Rel.fn ?_ ?_ ?_, fun w => by simp [execOp, ho, Instr.makeFunc]⟩
   ·have := hr1.length; simpa using this.symm
   ·have := hr1.length; have h5 := hr2.length; simp at this h5 ⊢; omega
   ·intro i l v hl hv'
    obtain ⟨u, hu, hrel⟩ := hr.get i l hl
    have : u = v := by
     rw [← Array.getElem?_toList, Array.toList_append, Array.toList_map, Array.toList_map, hu] at hv'
     exact Option.some.inj hv'
    exact this ▸ hrel
  ·cases h
 case binOp op t y z t' =>
  have hy := hv y (by simp [Op.operands])
  have hz := hv z (by simp [Op.operands])
  simp only [exOp] at h
  split at h
  ·rename_i k a k' b e1 e2
   rw [e1] at hy
   rw [e2] at hz
   generalize hcy : ρ y = vy at hy
   generalize hcz : ρ z = vz at hz
   cases hy
   cases hz
   have key : ∃ l v, (∀ KL : LV → Option β, binI op k k' a b KL = KL l) ∧ Rel J l v ∧ ∀ w : World, (binOp op t (.int k a) (.int k' b)).run P w = .ok v w := by
    clear e1 e2 hcy hcz hv
    cases op
    case eql => cases hp
    case neq => cases hp
    case shl =>
     simp only [binI] at h
     obtain ⟨h1, h2⟩ := bnot_some h
     have h1' := of_decide_eq_false h1
     exact ⟨.i0 k (shL k a b), .int k (shL k a b), fun KL => by simp only [binI, h1, cond_false], .i0 _ _, fun w => by simp [binOp, Op.shift, h1', shL]⟩
    case shr =>
     simp only [binI] at h
     obtain ⟨h1, h2⟩ := bnot_some h
     have h1' := of_decide_eq_false h1
     exact ⟨.i0 k (shR k a b), .int k (shR k a b), fun KL => by simp only [binI, h1, cond_false], .i0 _ _, fun w => by simp [binOp, Op.shift, h1', shR]⟩
    all_goals
     simp only [binI] at h
     obtain ⟨hk, h0⟩ := cond_some h
     clear h
     have hk' := of_decide_eq_true hk
     subst hk'
    case quo =>
     obtain ⟨h1, h2⟩ := bnot_some h0
     have h1' : ¬ b = 0 := by simpa using h1
     exact ⟨.i0 k (k.wrap (a.tdiv b)), .int k (k.wrap (a.tdiv b)), fun KL => by simp only [binI, decide_true, h1, cond_true, cond_false], .i0 _ _, fun w => by simp [binOp, Op.intDiv, h1']⟩
    case rem =>
     obtain ⟨h1, h2⟩ := bnot_some h0
     have h1' : ¬ b = 0 := by simpa using h1
     exact ⟨.i0 k (a.tmod b), .int k (a.tmod b), fun KL => by simp only [binI, decide_true, h1, cond_true, cond_false], .i0 _ _, fun w => by simp [binOp, Op.intDiv, h1']⟩
    case add => exact ⟨.i0 k (k.wrap (a + b)), .int k (k.wrap (a + b)), fun KL => by simp only [binI, decide_true, cond_true], .i0 _ _, fun w => by simp [binOp, Op.intArith]⟩
    case sub => exact ⟨.i0 k (k.wrap (a - b)), .int k (k.wrap (a - b)), fun KL => by simp only [binI, decide_true, cond_true], .i0 _ _, fun w => by simp [binOp, Op.intArith]⟩
    case mul => exact ⟨.i0 k (k.wrap (a * b)), .int k (k.wrap (a * b)), fun KL => by simp only [binI, decide_true, cond_true], .i0 _ _, fun w => by simp [binOp, Op.intArith]⟩
    case and => exact ⟨.i0 k (bitAnd k a b), .int k (bitAnd k a b), fun KL => by simp only [binI, decide_true, cond_true], .i0 _ _, fun w => by simp [binOp, Op.intBits, bitAnd]⟩
    case or => exact ⟨.i0 k (bitOr k a b), .int k (bitOr k a b), fun KL => by simp only [binI, decide_true, cond_true], .i0 _ _, fun w => by simp [binOp, Op.intBits, bitOr]⟩
    case xor => exact ⟨.i0 k (bitXor k a b), .int k (bitXor k a b), fun KL => by simp only [binI, decide_true, cond_true], .i0 _ _, fun w => by simp [binOp, Op.intBits, bitXor]⟩
    case andNot => exact ⟨.i0 k (bitClr k a b), .int k (bitClr k a b), fun KL => by simp only [binI, decide_true, cond_true], .i0 _ _, fun w => by simp [binOp, Op.intBits, bitClr]⟩
    case lss => exact ⟨.b0 (decide (a < b)), .bool (decide (a < b)), fun KL => by simp only [binI, decide_true, cond_true], .b0 _, fun w => by simp [binOp, Op.intCmp]⟩
    case leq => exact ⟨.b0 (decide (a ≤ b)), .bool (decide (a ≤ b)), fun KL => by simp only [binI, decide_true, cond_true], .b0 _, fun w => by simp [binOp, Op.intCmp]⟩
    case gtr => exact ⟨.b0 (decide (a > b)), .bool (decide (a > b)), fun KL => by simp only [binI, decide_true, cond_true], .b0 _, fun w => by simp [binOp, Op.intCmp]⟩
    case geq => exact ⟨.b0 (decide (a ≥ b)), .bool (decide (a ≥ b)), fun KL => by simp only [binI, decide_true, cond_true], .b0 _, fun w => by simp [binOp, Op.intCmp]⟩
    all_goals cases h0
   obtain ⟨l, v, k1, k2, k3⟩ := key
   exact ⟨.s l, v, fun K => by simp only [exOp, e1, e2, k1], k2, fun w => by simp [execOp, ho, hcy, hcz, eqGuard_at_int, k3]⟩
  all_goals
   exfalso
   cases op <;> first | (cases hp; done) | (cases h; done) | (split at h <;> first | (cases h; done) | contradiction)
def NormQ (Q : Exit → Act → World → Prop) : Exit → Act → World → Prop
 | .normal, a, w => Q .normal a w
 | _, _, _ => False
theorem wp_normQ {o : Oper} {a : Act} {w : World} {K : Act → World → Prop} (hh : o.wp P a w K (NormQ Q)) : o.wp P a w K Q := by
 unfold Oper.wp at *
 generalize (execOp a.eval o).run P w = r at *
 cases r with
 | ok n w' =>
  cases n <;> simp only [Oper.upon] at hh ⊢ <;>
   first
    | exact hh
    | exact Calls.mono hh (fun e w'' he => by
      cases e with
      | returned v => exact he
      | panicked c => exact False.elim he
      | outgrown => obtain ⟨_, _, h⟩ := he; exact False.elim h)
 | halt x w' => cases x <;> simp only [Oper.upon] at hh ⊢ <;> first | exact hh | exact False.elim hh
theorem wpOp_normQ {ops : Array Oper} {i : Nat} {a : Act} {w : World} {K : Act → World → Prop} (hh : wpOp P ops (NormQ Q) i K a w) : wpOp P ops Q i K a w := by
 unfold wpOp at *
 split
 ·rename_i ho; simp only [ho] at hh; exact hh
 ·rename_i o ho
  simp only [ho] at hh
  split
  ·rename_i hw
   rw [if_pos hw] at hh
   rcases hh with hh | ⟨_, _, _, h⟩
   ·exact .inl (wp_normQ hh)
   ·exact False.elim h
  ·rename_i hw
   rw [if_neg hw] at hh
   exact hh
theorem wpAny_normQ {ops : Array Oper} : ∀ (fuel : Nat) (listed : Array Bool) (a : Act) (w : World), wpAny P .any ops (NormQ Q) fuel listed a w → wpAny P .any ops Q fuel listed a w
 | 0, _, _, _, h => h
 | fuel + 1, _, _, _, h => ⟨h.1, fun i hi => wpOp_normQ (wpOp_mono (fun a w => wpAny_normQ fuel _ a w) (h.2 i hi))⟩
theorem wpOp_one {ops : Array Oper} {j : Nat} {o : Oper} (hj : ops[j]? = some o) {a : Act} {w : World} {K : Act → World → Prop}
  (h : wpList P ops (Exit.then K (NormQ Q)) [o] a w) : wpOp P ops (NormQ Q) j K a w := by
 unfold wpOp
 rw [hj]
 simp only
 unfold wpList at h
 split
 ·rename_i hw
  rw [if_pos hw] at h
  rcases h with h | ⟨_, _, _, h⟩
  ·refine .inl ?_
   have h : o.wp P a w K (Exit.then K (NormQ Q)) := h
   unfold Oper.wp at *
   generalize (execOp a.eval o).run P w = r at *
   cases r with
   | ok n w' =>
    cases n <;> simp only [Oper.upon] at h ⊢ <;>
     first
      | exact h
      | exact Calls.mono h (fun e w'' he => by cases e <;> exact he)
   | halt y w' => cases y <;> simp only [Oper.upon] at h ⊢ <;> exact h
  ·exact False.elim h
 ·rename_i hw
  rw [if_neg hw] at h
  exact h
theorem ops_get {ops : Array Oper} {j : Nat} {o : Oper} (h : ops.toList[j]? = some o) : ops[j]? = some o := by rw [← Array.getElem?_toList]; exact h
theorem tree_any (hT : EnvT P E) (hH : HdOk P hd) {ctx : List Nat} {ops : Array Oper} (hsel : Region.noSelect ops = true) {K : St → Option β} {ds : List Deferred}
  (hK : ∀ s' J' a' w', K s' = some x → RelS base w0 J' s' a'.tmps lows w' → a'.defers = ds → Q .normal a' w') :
  ∀ (n m : Nat) (listed : Array Bool) (s : St) (J : Inj) (a : Act) (w : World), exTree E hd ctx ops n m listed s K = some x → RelS base w0 J s a.tmps lows w → a.defers = ds →
   wpAny P .any ops (NormQ Q) n listed a w
 | 0, _, listed, s, J, a, w, h, hS, hd' => by
  simp only [exTree] at h
  cases hr : Region.ready .any ops listed with
  | nil => rw [hr] at h; exact ⟨hr, hK s J a w h hS hd'⟩
  | cons i r => rw [hr] at h; cases h
 | n + 1, m, listed, s, J, a, w, h, hS, hd' => by
  have ih := tree_any hT hH (ctx := ctx) hsel hK n
  simp only [exTree] at h
  cases hr : Region.ready .any ops listed with
  | nil => rw [hr] at h; exact ⟨fun _ => hK s J a w h hS hd', fun i hi => by rw [hr] at hi; cases hi⟩
  | cons i r =>
   rw [hr] at h
   simp only at h
   split at h
   ·rename_i j hj
    have hpj := List.find?_some hj
    have hmem := List.mem_of_find?_eq_some hj
    split at h
    ·rename_i o ho
     unfold pureAt at hpj
     rw [ho] at hpj
     simp only [Bool.and_eq_true] at hpj
     obtain ⟨⟨hp, hg⟩, hf⟩ := hpj
     have hgn : o.guard = none := by simpa using hg
     simp only [exOps, hgn] at h
     obtain ⟨pv, v, k1, k2, k3⟩ := pure_yields (P := P) (J := J) (ρ := a.eval) hp h (fun y _ => hS.fr.eval y)
     rw [k1] at h
     obtain ⟨s'', h2, h3⟩ := bind_some' h
     exact wpAny_take (ops_get ho) hsel hf (by rw [hr]; simpa using hmem) (fun c a w h => h) (.inl ⟨by simp [Region.wanted, hgn], k3⟩)
      (ih _ _ s'' J _ w h3 (hS.put k2 h2) (by rw [put_defers]; exact hd'))
    ·cases h
   ·have hall := agreeL_some h
    refine ⟨fun h0 => (by rw [hr] at h0; cases h0), fun j hj => ?_⟩
    rw [hr] at hj
    have h1 := hall _ (List.mem_map.2 ⟨j, hj, rfl⟩)
    split at h1
    ·rename_i o ho
     refine wpOp_one (ops_get ho) ?_
     exact ops_sound (Q := Exit.then (wpAny P .any ops (NormQ Q) n (listed.setIfInBounds j true)) (NormQ Q)) hT hH (ds := ds)
      (fun s' J' a' w' hk hS' hd'' => ih _ _ s' J' a' w' hk hS' hd'') [o] j s J a w h1 hS hd'
    ·cases h1
theorem tree_ok (hT : EnvT P E) (hH : HdOk P hd) {ctx : List Nat} {ops : Array Oper} (hsel : Region.noSelect ops = true) {K : St → Option β} {s : St} {J : Inj} {a : Act} {w : World}
  (h : exTree E hd ctx ops ops.size 0 (Array.replicate ops.size false) s K = some x) (hS : RelS base w0 J s a.tmps lows w)
  (hQ : ∀ s' J' a' w', K s' = some x → RelS base w0 J' s' a'.tmps lows w' → a'.defers = a.defers → Q .normal a' w') :
  wpAny P .any ops Q ops.size (Array.replicate ops.size false) a { w with drawn := w.drawn + 1 } := by
 have hmem0 : RelM base J s.mem ({ w with drawn := w.drawn + 1 } : World) :=
  ⟨fun b bb hb => by
   obtain ⟨pb, hp, hB⟩ := hS.mem.blk b bb hb
   exact ⟨pb, hp, hB.of_cells (w := w) (fun _ _ h => h) (Nat.le_refl _) (fun _ => rfl) (fun _ => rfl)⟩, hS.mem.apart⟩
 exact wpAny_normQ _ _ _ _ (tree_any (Q := Q) hT hH hsel hQ ops.size 0 _ s J a _ h ⟨hS.fr, hS.low, hmem0, hS.below.drew, hS.base⟩ rfl)
end
end Go.Sy
