/- The evaluator. -/
import Derived.Test.YtjmbhhinmbgneaaGreatSzCode
namespace Go.Sy
section
variable {β : Type} {E : Env} {hd : Hd β} {ctx : List Nat} {K : PV → St → Option β} {x : β} {s : St}
def ParOf (E : Env) (ctx : List Nat) (op : Op) (s : St) (K : PV → St → Option β) (x : β) : Prop :=
 ∃ pv new, K pv { s with mem := s.mem ++ new } = some x ∧ ∀ (γ : Type) (hd' : Hd γ) (K' : PV → St → Option γ), exOp E hd' ctx op s K' = K' pv { s with mem := s.mem ++ new }
theorem par_same {op : Op} {pv : PV} (h : K pv s = some x) (hk : ∀ (γ : Type) (hd' : Hd γ) (K' : PV → St → Option γ), exOp E hd' ctx op s K' = K' pv s) : ParOf E ctx op s K x :=
 ⟨pv, [], by simpa using h, fun γ hd' K' => by rw [hk]; simp⟩
theorem binI_par {op : BinOp} {k k' : IntKind} {a b : Int} {KL : LV → Option β} (h : binI op k k' a b KL = some x) : ∃ l, KL l = some x ∧ ∀ (γ : Type) (KL' : LV → Option γ), binI op k k' a b KL' = KL' l := by
 cases op
 case shl =>
  simp only [binI] at h
  obtain ⟨h1, h2⟩ := bnot_some h
  exact ⟨_, h2, fun γ KL' => by simp only [binI, h1, cond_false]⟩
 case shr =>
  simp only [binI] at h
  obtain ⟨h1, h2⟩ := bnot_some h
  exact ⟨_, h2, fun γ KL' => by simp only [binI, h1, cond_false]⟩
 all_goals
  simp only [binI] at h
  obtain ⟨hk, h0⟩ := cond_some h
  clear h
 case quo =>
  obtain ⟨h1, h2⟩ := bnot_some h0
  exact ⟨_, h2, fun γ KL' => by simp only [binI, hk, h1, cond_true, cond_false]⟩
 case rem =>
  obtain ⟨h1, h2⟩ := bnot_some h0
  exact ⟨_, h2, fun γ KL' => by simp only [binI, hk, h1, cond_true, cond_false]⟩
 all_goals first
  | exact ⟨_, h0, fun γ KL' => by simp only [binI, hk, cond_true]⟩
  | cases h0
theorem bounds_par {len : Nat} {lo hi : Option Operand} {KK : Nat → Nat → Option β} (h : bounds s len lo hi KK = some x) :
  ∃ l h', KK l h' = some x ∧ ∀ (γ : Type) (KK' : Nat → Nat → Option γ), bounds s len lo hi KK' = KK' l h' := by
 unfold bounds at h
 split at h
 ·exact ⟨_, _, h, fun γ KK' => rfl⟩
 ·split at h
  ·rename_i e
   obtain ⟨h1, h2⟩ := chk_some h
   exact ⟨_, _, h2, fun γ KK' => by simp only [bounds, e, chk, h1, cond_true]⟩
  ·cases h
 ·split at h
  ·rename_i e
   obtain ⟨h1, h2⟩ := chk_some h
   exact ⟨_, _, h2, fun γ KK' => by simp only [bounds, e, chk, h1, cond_true]⟩
  ·cases h
 ·split at h
  ·rename_i e1 e2
   obtain ⟨h1, h2⟩ := chk_some h
   exact ⟨_, _, h2, fun γ KK' => by simp only [bounds, e1, e2, chk, h1, cond_true]⟩
  ·cases h
theorem exOp_par {o : Oper} (hq : quietOp E o = true) (hF : ∀ f fo, lookFO f E.fns = some fo → FOpar fo) (h : exOp E hd ctx o.op s K = some x) : ParOf E ctx o.op s K x := by
 unfold quietOp at hq
 cases ho : o.op <;> rw [ho] at hq h <;> simp only [Bool.false_eq_true] at hq
 case move => exact par_same h fun _ _ _ => rfl
 case assign => exact par_same h fun _ _ _ => rfl
 case pick c a b =>
  simp only [exOp] at h
  split at h
  ·rename_i t e
   cases t with
   | true => exact par_same h fun _ _ _ => by simp only [exOp, e, cond_true]
   | false => exact par_same h fun _ _ _ => by simp only [exOp, e, cond_false]
  ·cases h
 case alloc t =>
  simp only [exOp] at h
  obtain ⟨h1, h2⟩ := cond_some h
  exact ⟨_, _, h2, fun _ _ _ => by simp only [exOp, h1, cond_true]⟩
 case box t y =>
  simp only [exOp] at h
  obtain ⟨v1, h1, h2⟩ := bind_some' h
  obtain ⟨ls, h3, h4⟩ := bind_some' h2
  exact ⟨_, _, h4, fun _ _ _ => by simp only [exOp, h1, h3, Option.bind_some]⟩
 case build t ps =>
  simp only [exOp] at h
  obtain ⟨hz0, h⟩ := bnot_some h
  obtain ⟨qs, h1, h⟩ := bind_some' h
  split at h
  ·rename_i fs hk
   obtain ⟨ls, h2, h3⟩ := bind_some' h
   exact par_same h3 fun _ _ _ => by simp only [exOp, hz0, cond_false, h1, Option.bind_some, hk, h2]
  ·rename_i n esz agg hk
   obtain ⟨ls, h2, h3⟩ := bind_some' h
   exact par_same h3 fun _ _ _ => by simp only [exOp, hz0, cond_false, h1, Option.bind_some, hk, h2]
  ·cases h
 case buildSlice t n ps =>
  simp only [exOp] at h
  obtain ⟨qs, h1, h⟩ := bind_some' h
  split at h
  ·rename_i hk
   cases hz0 : Nat.beq n 0 with
   | true =>
    rw [hz0] at h
    simp only [cond_true] at h
    obtain ⟨h5, h6⟩ := cond_some h
    obtain ⟨cols, h7, h8⟩ := bind_some' h6
    exact ⟨_, _, h8, fun _ _ _ => by simp only [exOp, h1, Option.bind_some, hk, hz0, cond_true, h5, h7]⟩
   | false =>
    obtain ⟨hn0, h⟩ := bnot_some (cond_ff hz0 h)
    obtain ⟨ls, h2, h3⟩ := bind_some' h
    rw [hz0] at hn0
    exact ⟨_, _, h3, fun _ _ _ => by simp only [exOp, h1, Option.bind_some, hk, hz0, cond_false, hn0, h2]⟩
  ·cases h
 case load t y =>
  simp only [exOp] at h
  split at h
  ·rename_i he
   obtain ⟨pb, hpb, h⟩ := bind_some' h
   obtain ⟨h1, h2⟩ := cond_some h
   cases ha : (E.ti t).kind.agg with
   | true =>
    rw [ha] at h2
    exact par_same h2 fun _ _ _ => by simp only [exOp, he, hpb, Option.bind_some, h1, ha, cond_true]
   | false =>
    rw [ha] at h2
    simp only [cond_false] at h2
    obtain ⟨h3, h4⟩ := cond_some h2
    exact par_same h4 fun _ _ _ => by simp only [exOp, he, hpb, Option.bind_some, h1, ha, cond_true, cond_false, h3]
  ·cases h
 case nilCheck y =>
  simp only [exOp] at h
  split at h
  ·rename_i he
   exact par_same h fun _ _ _ => by simp only [exOp, he]
  ·rename_i he
   exact par_same h fun _ _ _ => by simp only [exOp, he]
  ·cases h
 case binOp op t y z t' =>
  simp only [exOp] at h
  split at h
  ·rename_i e1 e2
   obtain ⟨l, h1, h2⟩ := binI_par h
   exact par_same h1 fun _ _ _ => by simp only [exOp, e1, e2, h2]
  ·rename_i e1 e2
   split at h
   ·rename_i hk
    exact par_same h fun _ _ _ => by simp only [exOp, e1, e2, hk]
   ·rename_i hk
    exact par_same h fun _ _ _ => by simp only [exOp, e1, e2, hk]
   ·cases h
  ·rename_i e1 e2
   split at h
   ·rename_i hk
    exact par_same h fun _ _ _ => by simp only [exOp, e1, e2, hk]
   ·rename_i hk
    exact par_same h fun _ _ _ => by simp only [exOp, e1, e2, hk]
   ·cases h
  ·rename_i e1 e2
   split at h
   ·rename_i hk
    exact par_same h fun _ _ _ => by simp only [exOp, e1, e2, hk]
   ·rename_i hk
    exact par_same h fun _ _ _ => by simp only [exOp, e1, e2, hk]
   ·cases h
  ·rename_i e1 e2
   split at h
   ·rename_i hk
    exact par_same h fun _ _ _ => by simp only [exOp, e1, e2, hk]
   ·rename_i hk
    exact par_same h fun _ _ _ => by simp only [exOp, e1, e2, hk]
   ·cases h
  ·rename_i e1 e2
   split at h
   ·rename_i hk
    rw [hk] at hq
    cases hq
   ·rename_i hk
    rw [hk] at hq
    cases hq
   ·cases h
  ·rename_i e1 e2
   split at h
   ·rename_i hk
    obtain ⟨h1, h2⟩ := cond_some h
    obtain ⟨r, h3, h4⟩ := bind_some' h2
    exact par_same h4 fun _ _ _ => by simp only [exOp, e1, e2, hk, h1, cond_true, h3, Option.bind_some]
   ·rename_i hk
    obtain ⟨h1, h2⟩ := cond_some h
    obtain ⟨r, h3, h4⟩ := bind_some' h2
    exact par_same h4 fun _ _ _ => by simp only [exOp, e1, e2, hk, h1, cond_true, h3, Option.bind_some]
   ·cases h
  ·cases h
 case unOp op t y =>
  simp only [exOp] at h
  split at h
  ·rename_i e
   exact par_same h fun _ _ _ => by simp only [exOp, e]
  ·rename_i e
   exact par_same h fun _ _ _ => by simp only [exOp, e]
  ·rename_i e
   exact par_same h fun _ _ _ => by simp only [exOp, e]
  ·cases h
 case convert t t' y =>
  simp only [exOp] at h
  split at h
  ·rename_i hk e
   obtain ⟨h1, h2⟩ := cond_some h
   exact par_same h2 fun _ _ _ => by simp only [exOp, hk, e, h1, cond_true]
  ·cases h
 case makeFunc f first captured =>
  simp only [exOp] at h
  split at h
  ·obtain ⟨fs, h1, h2⟩ := bind_some' h
   obtain ⟨cs, h3, h4⟩ := bind_some' h2
   exact par_same h4 fun _ _ _ => by simp only [exOp, h1, h3, Option.bind_some]
  ·cases h
 case slice t y lo hi mx =>
  simp only [exOp] at h
  split at h
  ·cases h
  ·split at h
   ·rename_i hk e
    obtain ⟨pb, hpb, h⟩ := bind_some' h
    obtain ⟨h1, h⟩ := cond_some h
    obtain ⟨l, h', h2, h3⟩ := bounds_par h
    exact par_same h2 fun _ _ _ => by simp only [exOp, hk, e, hpb, Option.bind_some, h1, cond_true, h3]
   ·rename_i hk e
    obtain ⟨h1, h⟩ := cond_some h
    obtain ⟨l, h', h2, h3⟩ := bounds_par h
    exact par_same h2 fun _ _ _ => by simp only [exOp, hk, e, h1, cond_true, h3]
   ·rename_i hk e
    obtain ⟨h1, h⟩ := cond_some h
    obtain ⟨l, h', h2, h3⟩ := bounds_par h
    exact par_same h2 fun _ _ _ => by simp only [exOp, hk, e, h1, cond_true, h3]
   ·rename_i hk e
    obtain ⟨h1, h⟩ := cond_some h
    obtain ⟨l, h', h2, h3⟩ := bounds_par h
    exact par_same h2 fun _ _ _ => by simp only [exOp, hk, e, h1, cond_true, h3]
   ·cases h
 case fieldAddr t y f =>
  simp only [exOp] at h
  split at h
  ·rename_i hk e
   split at h
   ·rename_i hf
    obtain ⟨h1, h2⟩ := bnot_some h
    exact par_same h2 fun _ _ _ => by simp only [exOp, hk, e, hf, h1, cond_false]
   ·cases h
  ·cases h
 case field t y f =>
  simp only [exOp] at h
  split at h
  ·rename_i hk e
   split at h
   ·rename_i hf
    obtain ⟨h1, h2⟩ := cond_some h
    obtain ⟨v, h3, h4⟩ := bind_some' h2
    exact par_same h4 fun _ _ _ => by simp only [exOp, hk, e, hf, h1, cond_true, h3, Option.bind_some]
   ·cases h
  ·cases h
 case indexAddr t y z =>
  simp only [exOp] at h
  split at h
  ·rename_i e2
   split at h
   ·rename_i hk e1
    obtain ⟨pb, hpb, h⟩ := bind_some' h
    obtain ⟨h1, h⟩ := cond_some h
    obtain ⟨h2, h3⟩ := chk_some h
    exact par_same h3 fun _ _ _ => by simp only [exOp, e2, hk, e1, hpb, Option.bind_some, h1, cond_true, chk, h2]
   ·rename_i zero _ _ _ _ _ _ hk e1
    obtain ⟨h1, h⟩ := cond_some h
    obtain ⟨h2, h3⟩ := chk_some h
    cases hp : zero.all plainL with
    | true =>
     rw [hp, cond_true] at h3
     exact par_same h3 fun _ _ _ => by simp only [exOp, e2, hk, e1, h1, cond_true, chk, h2, hp]
    | false =>
     rw [hp, cond_false] at h3
     obtain ⟨h4, h5⟩ := splitN_some h3
     exact par_same h5 fun _ _ _ => by simp only [exOp, e2, hk, e1, h1, cond_true, chk, h2, hp, cond_false, splitN_eq _ h4]
   ·rename_i hk e1
    obtain ⟨h2, h3⟩ := chk_some h
    cases hp : (E.ti t).zero.all plainL with
    | true =>
     rw [hp, cond_true] at h3
     exact par_same h3 fun _ _ _ => by simp only [exOp, e2, hk, e1, chk, h2, cond_true, hp]
    | false =>
     rw [hp, cond_false] at h3
     obtain ⟨h4, h5⟩ := splitN_some h3
     exact par_same h5 fun _ _ _ => by simp only [exOp, e2, hk, e1, chk, h2, cond_true, hp, cond_false, splitN_eq _ h4]
   ·cases h
  ·cases h
 case index t y z =>
  simp only [exOp] at h
  split at h
  ·rename_i e2
   split at h
   ·rename_i hk e1
    obtain ⟨h1, h⟩ := cond_some h
    obtain ⟨h2, h⟩ := chk_some h
    cases hp : (E.ti t).zero.all plainL with
    | true =>
     rw [hp, cond_true] at h
     obtain ⟨v, h3, h4⟩ := bind_some' h
     exact par_same h4 fun _ _ _ => by simp only [exOp, e2, hk, e1, h1, cond_true, chk, h2, hp, h3, Option.bind_some]
    | false =>
     rw [hp, cond_false] at h
     obtain ⟨h5, h⟩ := splitN_some h
     obtain ⟨v, h3, h4⟩ := bind_some' h
     exact par_same h4 fun _ _ _ => by simp only [exOp, e2, hk, e1, h1, cond_true, chk, h2, hp, cond_false, splitN_eq _ h5, h3, Option.bind_some]
   ·rename_i hk e1
    obtain ⟨h2, h3⟩ := chk_some h
    exact par_same h3 fun _ _ _ => by simp only [exOp, e2, hk, e1, chk, h2, cond_true]
   ·cases h
  ·cases h
 case extract y i =>
  simp only [exOp] at h
  split at h
  ·rename_i e
   split at h
   ·rename_i hv
    exact par_same h fun _ _ _ => by simp only [exOp, e, hv]
   ·cases h
  ·cases h
 case call c =>
  cases hc : c.callee with
  | builtin b =>
   rw [hc] at hq
   cases b <;> simp only [Bool.false_eq_true] at hq
   case len =>
    simp only [exOp, hc] at h
    split at h
    ·rename_i ea et
     split at h
     ·rename_i hk e
      obtain ⟨n, h1, h2⟩ := bind_some' h
      exact par_same h2 fun _ _ _ => by simp only [exOp, hc, ea, et, hk, e, h1, Option.bind_some]
     ·rename_i hk e
      exact par_same h fun _ _ _ => by simp only [exOp, hc, ea, et, hk, e]
     ·rename_i hk
      exact par_same h fun _ _ _ => by simp only [exOp, hc, ea, et, hk]
     ·cases h
    ·cases h
   case min =>
    simp only [exOp, hc] at h
    obtain ⟨l, h1, h2⟩ := bind_some' h
    exact par_same h2 fun _ _ _ => by simp only [exOp, hc, h1, Option.bind_some]
   case max =>
    simp only [exOp, hc] at h
    obtain ⟨l, h1, h2⟩ := bind_some' h
    exact par_same h2 fun _ _ _ => by simp only [exOp, hc, h1, Option.bind_some]
  | invoke r m => rw [hc] at hq; simp at hq
  | value y =>
   rw [hc] at hq
   cases y <;> simp only [Bool.false_eq_true] at hq
   rename_i f
   obtain ⟨fo, hl⟩ := Option.isSome_iff_exists.1 hq
   have h' := h
   simp only [exOp, hc, St.eval] at h'
   rw [hl] at h'
   obtain ⟨pv, new, hp⟩ := hF f fo hl _ _ _ _ _ h'
   simp only at h'
   rw [hp] at h'
   refine ⟨pv, new, h', fun γ hd' K' => ?_⟩
   simp only [exOp, hc, St.eval]
   rw [hl]
   simp only
   rw [hp]
end
end Go.Sy
