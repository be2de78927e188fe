/- The evaluator. -/
import Derived.Orders
namespace Go.Sy
inductive LV where
 | unk
 | i0 (k : IntKind) (n : Int)
 | i1 (k : IntKind) (f : Nat → Int)
 | b0 (b : Bool)
 | b1 (f : Nat → Bool)
 | s0 (s : ByteArray)
 | s1 (f : Nat → ByteArray)
 | pn
 | p (blk row off : Nat) (sym : List (Nat × Nat × Nat))
 | sln
 | slr (blk frm len : Nat)
 | slf (blk off esz cnt frm len : Nat)
 | fn (f : FuncId) (k : Nat) (cap : List LV)
 | fnn
 deriving Inhabited
inductive V1 where
 | sc (l : LV)
 | ag (ls : List LV)
 deriving Inhabited
inductive PV where
 | v (x : V1)
 | tup (xs : List V1)
 deriving Inhabited
structure PBlk where
 own : Bool
 rowsy : Bool
 cols : List LV
 deriving Inhabited
structure Fr where
 n : Nat
 sl : List (Nat × PV)
 deriving Inhabited
structure St where
 fr : Fr
 low : List Fr
 mem : List PBlk
 deriving Inhabited
abbrev PV.s (l : LV) : PV := .v (.sc l)
abbrev PV.a (ls : List LV) : PV := .v (.ag ls)
def LV.row : LV → Nat → LV
 | .i1 k f, r => .i0 k (f r)
 | .b1 f, r => .b0 (f r)
 | .s1 f, r => .s0 (f r)
 | l, _ => l
def LV.int : LV → Int | .i0 _ n => n | _ => 0
def LV.bool : LV → Bool | .b0 b => b | _ => false
def LV.str : LV → ByteArray | .s0 s => s | _ => ⟨#[]⟩
def LV.isI (k : IntKind) : LV → Bool | .i0 k' _ => decide (k' = k) | _ => false
def LV.isB : LV → Bool | .b0 _ => true | _ => false
def LV.isS : LV → Bool | .s0 _ => true | _ => false
def selI (l : List Int) (i : Nat) : Int := l.getD i 0
def selB (l : List Bool) (i : Nat) : Bool := l.getD i false
def selS (l : List ByteArray) (i : Nat) : ByteArray := l.getD i ⟨#[]⟩
def selLV (l : List LV) (i : Nat) : LV :=
 match l with
 | .i0 k _ :: _ => bif l.all (LV.isI k) then .i0 k (selI (l.map LV.int) i) else .unk
 | .b0 _ :: _ => bif l.all LV.isB then .b0 (selB (l.map LV.bool) i) else .unk
 | .s0 _ :: _ => bif l.all LV.isS then .s0 (selS (l.map LV.str) i) else .unk
 | _ => l.getD i .unk
def updI (f : Nat → Int) (r : Nat) (n : Int) : Nat → Int := fun j => bif Nat.beq j r then n else f j
def updB (f : Nat → Bool) (r : Nat) (n : Bool) : Nat → Bool := fun j => bif Nat.beq j r then n else f j
def updS (f : Nat → ByteArray) (r : Nat) (n : ByteArray) : Nat → ByteArray := fun j => bif Nat.beq j r then n else f j
def rdSym (cols : List LV) (r : Nat) : (off : Nat) → List (Nat × Nat × Nat) → LV
 | off, [] => (cols.getD off .unk).row r
 | off, (i, s, c) :: rest => selLV ((List.range c).map fun j => rdSym cols r (off + j * s) rest) i
def LV.setRow (rowsy : Bool) (old : LV) (r : Nat) (x : LV) : Option LV :=
 match rowsy, old, x with
 | true, .i1 k f, .i0 k' n => bif decide (k = k') then some (.i1 k (updI f r n)) else none
 | true, .b1 f, .b0 n => some (.b1 (updB f r n))
 | true, .s1 f, .s0 n => some (.s1 (updS f r n))
 | true, _, _ => none
 | false, _, .i1 _ _ => none
 | false, _, .b1 _ => none
 | false, _, .s1 _ => none
 | false, _, x => some x
def LV.setIf (c : Bool) (old x : LV) : Option LV :=
 match old, x with
 | .i0 k a, .i0 k' n => bif decide (k = k') then some (.i0 k (bif c then n else a)) else none
 | .b0 a, .b0 n => some (.b0 (bif c then n else a))
 | .s0 a, .s0 n => some (.s0 (bif c then n else a))
 | _, _ => none
def wrCell (pb : PBlk) (r off : Nat) (sym : List (Nat × Nat × Nat)) (x : LV) : Option (List LV) :=
 match sym with
 | [] => bif Nat.blt off pb.cols.length then ((pb.cols.getD off .unk).setRow pb.rowsy r x).map (pb.cols.set off ·) else none
 | [(i, s, c)] =>
  bif pb.rowsy || Nat.beq s 0 then none else
  (List.range c).foldl (fun acc j => acc.bind fun cols =>
   bif Nat.blt (off + j * s) cols.length then (LV.setIf (Nat.beq i j) (cols.getD (off + j * s) .unk) x).map (cols.set (off + j * s) ·) else none) (some pb.cols)
 | _ => none
def wrCells (pb : PBlk) (r off : Nat) (sym : List (Nat × Nat × Nat)) : List LV → Option PBlk
 | [] => some pb
 | x :: xs => (wrCell pb r off sym x).bind fun cols => wrCells { pb with cols } r (off + 1) sym xs
inductive TK where
 | bool | int (k : IntKind) | str | ptr | func
 | st (fs : List (Nat × Nat × Bool))
 | arr (n esz : Nat) (agg : Bool)
 | sl (esz bytes : Nat) (agg : Bool) (zero : List LV)
 | parr (n esz : Nat)
 | other
structure TI where
 sz : Nat
 zero : List LV
 kind : TK
def TK.agg : TK → Bool | .st _ => true | .arr .. => true | _ => false
def TK.known : TK → Bool | .other => false | _ => true
def symMax : List (Nat × Nat × Nat) → Nat
 | [] => 0
 | (_, s, c) :: r => (c - 1) * s + symMax r
abbrev FO := (β : Type) → List PV → List PBlk → (PV → List PBlk → Option β) → Option β
abbrev LO := (β : Type) → St → (Nat → St → Option β) → (St → Option β) → Option β
inductive EK where
 | i (k : IntKind) | b | s
structure Env where
 tt : List TI
 fns : List (FuncId × FO)
 inl : List (FuncId × Func)
 loops : List (List Nat × LO)
 eqs : List (Nat × List EK)
def Env.ti (E : Env) (t : TypeId) : TI := E.tt.getD t ⟨0, [], .other⟩
def lookN {α : Type} (t : Nat) : List (Nat × α) → Option α
 | [] => none
 | (u, x) :: r => bif Nat.beq t u then some x else lookN t r
def lookFO (t : Nat) : List (FuncId × FO) → Option FO
 | [] => none
 | (u, x) :: r => bif Nat.beq t u then some x else lookFO t r
def eqNats : List Nat → List Nat → Bool
 | [], [] => true
 | a :: x, b :: y => Nat.beq a b && eqNats x y
 | _, _ => false
def lookLO (t : List Nat) : List (List Nat × LO) → Option LO
 | [] => none
 | (u, x) :: r => bif eqNats t u then some x else lookLO t r
def St.get (s : St) (t : Nat) : PV := (lookN t s.fr.sl).getD (.s .unk)
def St.put (s : St) (d : Option Nat) (x : PV) : Option St :=
 match d with
 | none => some s
 | some d => bif Nat.blt d s.fr.n then some { s with fr := { s.fr with sl := (d, x) :: s.fr.sl } } else none
def ofConst : Value → LV
 | .int k n => .i0 k n
 | .bool b => .b0 b
 | .string s => .s0 s
 | .pointer none => .pn
 | .slice none 0 0 => .sln
 | .nilFunc => .fnn
 | _ => .unk
def St.eval (s : St) : Operand → PV
 | .tmp t => s.get t
 | .const v => .s (ofConst v)
 | .func f => .s (.fn f 0 [])
 | .global _ => .s .unk
def LV.known : LV → Bool | .unk => false | _ => true
def V1.cells : V1 → Option (List LV)
 | .sc .unk => none
 | .sc l => some [l]
 | .ag ls => bif ls.all LV.known then some ls else none
def PV.one : PV → Option V1
 | .v x => some x
 | .tup _ => none
section ops
variable {β : Type}
def chk (b : Bool) (x : Option β) : Option β := bif b then x else none
def bitAnd (k : IntKind) (x y : Int) : Int := k.wrap (BitVec.ofInt k.bits x &&& BitVec.ofInt k.bits y).toNat
def bitOr (k : IntKind) (x y : Int) : Int := k.wrap (BitVec.ofInt k.bits x ||| BitVec.ofInt k.bits y).toNat
def bitXor (k : IntKind) (x y : Int) : Int := k.wrap (BitVec.ofInt k.bits x ^^^ BitVec.ofInt k.bits y).toNat
def bitClr (k : IntKind) (x y : Int) : Int := k.wrap (BitVec.ofInt k.bits x &&& ~~~(BitVec.ofInt k.bits y)).toNat
def shL (k : IntKind) (x y : Int) : Int := k.wrap (x * 2 ^ (min y.toNat k.bits))
def shR (k : IntKind) (x y : Int) : Int := x.fdiv (2 ^ (min y.toNat k.bits))
def binI (op : BinOp) (k k' : IntKind) (x y : Int) (K : LV → Option β) : Option β :=
 match op with
 | .shl => bif decide (y < 0) then none else K (.i0 k (shL k x y))
 | .shr => bif decide (y < 0) then none else K (.i0 k (shR k x y))
 | op => bif decide (k = k') then
   (match op with
   | .add => K (.i0 k (k.wrap (x + y)))
   | .sub => K (.i0 k (k.wrap (x - y)))
   | .mul => K (.i0 k (k.wrap (x * y)))
   | .quo => bif y == 0 then none else K (.i0 k (k.wrap (x.tdiv y)))
   | .rem => bif y == 0 then none else K (.i0 k (x.tmod y))
   | .and => K (.i0 k (bitAnd k x y))
   | .or => K (.i0 k (bitOr k x y))
   | .xor => K (.i0 k (bitXor k x y))
   | .andNot => K (.i0 k (bitClr k x y))
   | .eql => K (.b0 (x == y))
   | .neq => K (.b0 (x != y))
   | .lss => K (.b0 (decide (x < y)))
   | .leq => K (.b0 (decide (x ≤ y)))
   | .gtr => K (.b0 (decide (x > y)))
   | .geq => K (.b0 (decide (x ≥ y)))
   | _ => none) else none
def eqLV : LV → LV → Option Bool
 | .i0 k a, .i0 k' b => bif decide (k = k') then some (a == b) else none
 | .b0 a, .b0 b => some (a == b)
 | .s0 a, .s0 b => some (a == b)
 | _, _ => none
def eqLVs : List LV → List LV → Option Bool
 | [], [] => some true
 | [x], [y] => eqLV x y
 | x :: xs, y :: ys => (eqLV x y).bind fun a => (eqLVs xs ys).map fun b => a && b
 | _, _ => none
def fitE : List EK → List LV → Bool
 | [], [] => true
 | .i k :: r, .i0 k' _ :: l => decide (k = k') && fitE r l
 | .b :: r, .b0 _ :: l => fitE r l
 | .s :: r, .s0 _ :: l => fitE r l
 | _, _ => false
def shiftLV (l : LV) (frm : Nat) : Option LV :=
 match l with
 | .i1 k f => some (.i1 k fun j => f (j + frm))
 | .b1 f => some (.b1 fun j => f (j + frm))
 | .s1 f => some (.s1 fun j => f (j + frm))
 | _ => none
def colOf (l : List LV) (frm : Nat) : Option LV :=
 match l with
 | .i0 k _ :: _ => bif l.all (LV.isI k) then some (.i1 k fun j => selI (l.map LV.int) (j + frm)) else none
 | .b0 _ :: _ => bif l.all LV.isB then some (.b1 fun j => selB (l.map LV.bool) (j + frm)) else none
 | .s0 _ :: _ => bif l.all LV.isS then some (.s1 fun j => selS (l.map LV.str) (j + frm)) else none
 | _ => none
def allSome {α : Type} : List (Option α) → Option (List α)
 | [] => some []
 | x :: r => x.bind fun a => (allSome r).map (a :: ·)
def zeroRow : LV → Option LV
 | .i0 k n => some (.i1 k fun _ => n)
 | .b0 b => some (.b1 fun _ => b)
 | .s0 s => some (.s1 fun _ => s)
 | _ => none
def elemsOf (mem : List PBlk) : LV → Option (List LV × Nat)
 | .slr blk frm len => (mem[blk]?).bind fun pb => bif pb.rowsy then (allSome (pb.cols.map (shiftLV · frm))).map (·, len) else none
 | .slf blk off esz cnt frm len => (mem[blk]?).bind fun pb => bif pb.rowsy then none else
   (allSome ((List.range esz).map fun q => colOf ((List.range cnt).map fun j => pb.cols.getD (off + j * esz + q) .unk) frm)).map (·, len)
 | _ => none
def catLV (len : Nat) : LV → LV → Option LV
 | .i1 k f, .i1 k' g => bif decide (k = k') then some (.i1 k fun j => bif Nat.blt j len then f j else g (j - len)) else none
 | .b1 f, .b1 g => some (.b1 fun j => bif Nat.blt j len then f j else g (j - len))
 | .s1 f, .s1 g => some (.s1 fun j => bif Nat.blt j len then f j else g (j - len))
 | _, _ => none
def catLVs (len : Nat) : List LV → List LV → Option (List LV)
 | [], [] => some []
 | x :: xs, y :: ys => (catLV len x y).bind fun z => (catLVs len xs ys).map (z :: ·)
 | _, _ => none
def slLen : LV → Option Nat
 | .sln => some 0
 | .slr _ _ len => some len
 | .slf _ _ _ _ _ len => some len
 | _ => none
def bounds (s : St) (len : Nat) (lo hi : Option Operand) (K : Nat → Nat → Option β) : Option β :=
 match lo, hi with
 | none, none => K 0 len
 | some l, none => match s.eval l with
  | .v (.sc (.i0 _ l)) => chk (decide (0 ≤ l) && decide (l ≤ len)) (K l.toNat len)
  | _ => none
 | none, some h => match s.eval h with
  | .v (.sc (.i0 _ h)) => chk (decide (0 ≤ h) && decide (h ≤ len)) (K 0 h.toNat)
  | _ => none
 | some l, some h => match s.eval l, s.eval h with
  | .v (.sc (.i0 _ l)), .v (.sc (.i0 _ h)) => chk (decide (0 ≤ l) && decide (l ≤ h) && decide (h ≤ len)) (K l.toNat h.toNat)
  | _, _ => none
def fillL (place : Nat → Option (Nat × Nat)) (cells : List LV) : List (Nat × List LV) → Option (List LV)
 | [] => some cells
 | (i, ls) :: rest => (place i).bind fun (off, size) =>
   bif Nat.beq ls.length size && Nat.ble (off + size) cells.length then fillL place (cells.take off ++ ls ++ cells.drop (off + size)) rest else none
def evalParts (s : St) : List (Nat × Operand) → Option (List (Nat × List LV))
 | [] => some []
 | (i, x) :: r => ((s.eval x).one).bind fun v => v.cells.bind fun ls => (evalParts s r).map ((i, ls) :: ·)
def evalCells (s : St) : List Operand → Option (List LV)
 | [] => some []
 | x :: r => match s.eval x with
  | .v (.sc l) => (evalCells s r).map (l :: ·)
  | _ => none
mutual
def LV.scr (b : Nat) : LV → LV
 | .p b' r o y => bif Nat.beq b' b then .unk else .p b' r o y
 | .slr b' f l => bif Nat.beq b' b then .unk else .slr b' f l
 | .slf b' o e c f l => bif Nat.beq b' b then .unk else .slf b' o e c f l
 | .fn f k cap => .fn f k (LV.scrL b cap)
 | .i0 k n => .i0 k n
 | .i1 k f => .i1 k f
 | .b0 x => .b0 x
 | .b1 f => .b1 f
 | .s0 x => .s0 x
 | .s1 f => .s1 f
 | .pn => .pn
 | .sln => .sln
 | .fnn => .fnn
 | .unk => .unk
def LV.scrL (b : Nat) : List LV → List LV
 | [] => []
 | l :: r => l.scr b :: LV.scrL b r
end
def V1.scr (b : Nat) : V1 → V1
 | .sc l => .sc (l.scr b)
 | .ag ls => .ag (LV.scrL b ls)
def V1.scrL (b : Nat) : List V1 → List V1
 | [] => []
 | x :: r => x.scr b :: V1.scrL b r
def PV.scr (b : Nat) : PV → PV
 | .v x => .v (x.scr b)
 | .tup xs => .tup (V1.scrL b xs)
def slScr (b : Nat) : List (Nat × PV) → List (Nat × PV)
 | [] => []
 | (t, x) :: r => (t, x.scr b) :: slScr b r
def lowScr (b : Nat) : List Fr → List Fr
 | [] => []
 | f :: r => ⟨f.n, slScr b f.sl⟩ :: lowScr b r
def memScr (b : Nat) : List PBlk → List PBlk
 | [] => []
 | pb :: r => { pb with cols := LV.scrL b pb.cols } :: memScr b r
def St.scr (b : Nat) (s : St) : St := ⟨⟨s.fr.n, slScr b s.fr.sl⟩, lowScr b s.low, memScr b s.mem⟩
abbrev Hd (β : Type) := List Nat → FuncId → List PV → St → (PV → St → Option β) → Option β
def mkAgg (agg : Bool) (ls : List LV) : Option V1 :=
 bif agg then some (.ag ls) else match ls with | [l] => some (.sc l) | _ => none
theorem agree_ex : ∃ f : (β : Type) → Option β → Option β → Option β, (∀ β a b x, f β a b = some x → a = some x ∧ b = some x) ∧ ∀ β a, f β a a = a := by
 classical
 refine ⟨fun β a b => if a = b then a else none, fun β a b x h => ?_, fun β a => if_pos rfl⟩
 by_cases e : a = b
 ·subst e
  have h : (if a = a then a else none) = some x := h
  rw [if_pos rfl] at h
  exact ⟨h, h⟩
 ·have h : (if a = b then a else none) = some x := h
  rw [if_neg e] at h
  cases h
noncomputable def agree {β : Type} (a b : Option β) : Option β := Classical.choose agree_ex β a b
theorem agree_some {β : Type} {a b : Option β} {x : β} (h : agree a b = some x) : a = some x ∧ b = some x := (Classical.choose_spec agree_ex).1 β a b x h
theorem agree_self {β : Type} (a : Option β) : agree a a = a := (Classical.choose_spec agree_ex).2 β a
noncomputable def agreeL {β : Type} : List (Option β) → Option β
 | [] => none
 | [x] => x
 | x :: y :: r => agree x (agreeL (y :: r))
theorem agreeL_some {β : Type} {x : β} : ∀ {l : List (Option β)}, agreeL l = some x → ∀ a ∈ l, a = some x
 | [], h, _, _ => by cases h
 | [y], h, a, ha => by
  have : a = y := by simpa using ha
  subst this
  exact h
 | y :: z :: r, h, a, ha => by
  obtain ⟨h1, h2⟩ := agree_some h
  rcases List.mem_cons.1 ha with e | hr
  ·subst e; exact h1
  ·exact agreeL_some h2 a hr
noncomputable def nilOr {β : Type} (n : Nat) (a b : Option β) : Option β := bif Nat.blt 0 n then a else agree b a
def minMax (isMax : Bool) : List PV → Option LV
 | [.v (.sc (.i0 k x)), .v (.sc (.i0 k' y))] =>
  bif decide (k = k') then some (.i0 k (bif isMax then (bif decide (y > x) then y else x) else (bif decide (y < x) then y else x))) else none
 | _ => none
def splitN {β : Type} : Nat → Nat → (Nat → Option β) → Option β
 | 0, _, _ => none
 | n + 1, i, F => bif Nat.beq i n then F n else splitN n i F
theorem splitN_eq {β : Type} {i : Nat} (F : Nat → Option β) : ∀ {n : Nat}, i < n → splitN n i F = F i
 | 0, h => absurd h (by omega)
 | n + 1, h => by
  unfold splitN
  by_cases e : i = n
  ·subst e
   rw [Nat.beq_refl, cond_true]
  ·have : Nat.beq i n = false := by
    cases hb : Nat.beq i n with
    | false => rfl
    | true => exact absurd (Nat.eq_of_beq_eq_true hb) e
   rw [this, cond_false]
   exact splitN_eq F (by omega)
theorem splitN_some {β : Type} {i : Nat} {F : Nat → Option β} {x : β} : ∀ {n : Nat}, splitN n i F = some x → i < n ∧ F i = some x
 | 0, h => by cases h
 | n + 1, h => by
  unfold splitN at h
  cases hb : Nat.beq i n with
  | true =>
   have e := Nat.eq_of_beq_eq_true hb
   subst e
   rw [hb, cond_true] at h
   exact ⟨by omega, h⟩
  | false =>
   rw [hb, cond_false] at h
   obtain ⟨h1, h2⟩ := splitN_some h
   exact ⟨by omega, h2⟩
def plainL : LV → Bool
 | .i0 .. | .b0 _ | .s0 _ => true
 | _ => false
noncomputable def exOp (E : Env) (hd : Hd β) (ctx : List Nat) (op : Op) (s : St) (K : PV → St → Option β) : Option β :=
 let KL (l : LV) : Option β := K (.s l) s
 match op with
 | .move x | .assign x => K (s.eval x) s
 | .pick c a b => match s.eval c with
  | .v (.sc (.b0 t)) => bif t then K (s.eval a) s else K (s.eval b) s
  | _ => none
 | .alloc t => bif (E.ti t).kind.known && !(E.ti t).zero.isEmpty then K (.s (.p s.mem.length 0 0 [])) { s with mem := s.mem ++ [⟨true, false, (E.ti t).zero⟩] } else none
 | .box _ x => (s.eval x).one.bind fun v => v.cells.bind fun ls => K (.s (.p s.mem.length 0 0 [])) { s with mem := s.mem ++ [⟨true, false, ls⟩] }
 | .build t parts => bif (E.ti t).zero.isEmpty then none else (evalParts s parts.toList).bind fun ps => match (E.ti t).kind with
  | .st fs => (fillL (fun i => (fs[i]?).map fun x => (x.1, x.2.1)) (E.ti t).zero ps).bind fun ls => K (.a ls) s
  | .arr _ esz _ => (fillL (fun i => some (i * esz, esz)) (E.ti t).zero ps).bind fun ls => K (.a ls) s
  | _ => none
 | .buildSlice t len parts => (evalParts s parts.toList).bind fun ps => match (E.ti t).kind with
  | .sl esz _ _ zero => bif Nat.beq len 0 then (bif ps.isEmpty && !zero.isEmpty && Nat.beq zero.length esz then (allSome (zero.map zeroRow)).bind fun cols =>
    K (.s (.slr s.mem.length 0 0)) { s with mem := s.mem ++ [⟨true, true, cols⟩] } else none) else
   bif Nat.beq len 0 || !(!zero.isEmpty && Nat.beq zero.length esz && Nat.ble (len * esz) 16777216) then none else
   (fillL (fun i => some (i * esz, esz)) ((List.replicate len zero).flatten) ps).bind fun ls =>
    K (.s (.slf s.mem.length 0 esz len 0 len)) { s with mem := s.mem ++ [⟨true, false, ls⟩] }
  | _ => none
 | .load t a => match s.eval a with
  | .v (.sc (.p blk row off sym)) => (s.mem[blk]?).bind fun pb =>
   bif (E.ti t).kind.known && Nat.ble (off + (E.ti t).sz + symMax sym) pb.cols.length then
    bif (E.ti t).kind.agg then K (.a ((List.range (E.ti t).sz).map fun q => rdSym pb.cols row (off + q) sym)) s
    else bif Nat.beq (E.ti t).sz 1 then KL (rdSym pb.cols row off sym) else none
   else none
  | _ => none
 | .store t a x => match s.eval a with
  | .v (.sc (.p blk row off sym)) => (s.eval x).one.bind fun v => v.cells.bind fun ls => (s.mem[blk]?).bind fun pb =>
   bif pb.own && Nat.beq ls.length (E.ti t).sz && (E.ti t).kind.known then
    (wrCells pb row off sym ls).bind fun pb' => K (.s .unk) { s with mem := s.mem.set blk pb' }
   else none
  | _ => none
 | .nilCheck x => match s.eval x with
  | .v (.sc (.p b r o y)) => KL (.p b r o y)
  | .v (.sc (.fn f k c)) => KL (.fn f k c)
  | _ => none
 | .binOp op t x y _ => match s.eval x, s.eval y with
  | .v (.sc (.i0 k a)), .v (.sc (.i0 k' b)) => binI op k k' a b KL
  | .v (.sc (.b0 a)), .v (.sc (.b0 b)) => match op, (E.ti t).kind with
   | .eql, .bool => KL (.b0 (a == b))
   | .neq, .bool => KL (.b0 (!(a == b)))
   | _, _ => none
  | .v (.sc .pn), .v (.sc .pn) => match op, (E.ti t).kind with
   | .eql, .ptr => KL (.b0 true)
   | .neq, .ptr => KL (.b0 false)
   | _, _ => none
  | .v (.sc (.p ..)), .v (.sc .pn) => match op, (E.ti t).kind with
   | .eql, .ptr => KL (.b0 false)
   | .neq, .ptr => KL (.b0 true)
   | _, _ => none
  | .v (.sc .sln), .v (.sc .sln) => match op, (E.ti t).kind with
   | .eql, .sl .. => KL (.b0 true)
   | .neq, .sl .. => KL (.b0 false)
   | _, _ => none
  | .v (.sc (.slr _ _ n)), .v (.sc .sln) => match op, (E.ti t).kind with
   | .eql, .sl .. => nilOr n (KL (.b0 false)) (KL (.b0 true))
   | .neq, .sl .. => nilOr n (KL (.b0 true)) (KL (.b0 false))
   | _, _ => none
  | .v (.ag ls), .v (.ag ms) => match op, lookN t E.eqs with
   | .eql, some ks => bif fitE ks ls && fitE ks ms then (eqLVs ls ms).bind fun r => KL (.b0 r) else none
   | .neq, some ks => bif fitE ks ls && fitE ks ms then (eqLVs ls ms).bind fun r => KL (.b0 (!r)) else none
   | _, _ => none
  | _, _ => none
 | .unOp op _ x => match op, s.eval x with
  | .not, .v (.sc (.b0 b)) => KL (.b0 (!b))
  | .neg, .v (.sc (.i0 k n)) => KL (.i0 k (k.wrap (0 - n)))
  | .xor, .v (.sc (.i0 k n)) => KL (.i0 k (bitXor k (if k.signed then -1 else k.max) n))
  | _, _ => none
 | .convert src dst x => match (E.ti dst).kind, s.eval x with
  | .int k, .v (.sc (.i0 _ n)) => bif (E.ti src).kind.known then KL (.i0 k (k.wrap n)) else none
  | _, _ => none
 | .makeFunc f first captured => match f with
  | .func f => (evalCells s first.toList).bind fun fs => (evalCells s captured.toList).bind fun cs => KL (.fn f fs.length (fs ++ cs))
  | _ => none
 | .slice t x lo hi mx => match mx with
  | some _ => none
  | none => match (E.ti t).kind, s.eval x with
   | .sl esz _ _ _, .v (.sc (.slr b frm len)) => (s.mem[b]?).bind fun pb => bif Nat.beq pb.cols.length esz then
     bounds s len lo hi fun l h => KL (.slr b (l + frm) (h - l)) else none
   | .sl esz _ _ _, .v (.sc (.slf b off e c frm len)) => bif Nat.beq e esz then
     bounds s len lo hi fun l h => KL (.slf b off e c (l + frm) (h - l)) else none
   | .arr n esz _, .v (.sc (.p b row off [])) => bif Nat.beq row 0 && !(Nat.beq n 0) then bounds s n lo hi fun l h => KL (.slf b off esz n l (h - l)) else none
   | .parr n esz, .v (.sc (.p b row off [])) => bif Nat.beq row 0 && !(Nat.beq n 0) then bounds s n lo hi fun l h => KL (.slf b off esz n l (h - l)) else none
   | _, _ => none
 | .fieldAddr t x f => match (E.ti t).kind, s.eval x with
  | .st fs, .v (.sc (.p b row off sym)) => match fs[f]? with
   | some (fo, fsz, _) => bif Nat.beq fsz 0 then none else KL (.p b row (off + fo) sym)
   | none => none
  | _, _ => none
 | .field t x f => match (E.ti t).kind, s.eval x with
  | .st fs, .v (.ag ls) => match fs[f]? with
   | some (fo, fsz, agg) => bif Nat.ble (fo + fsz) ls.length then (mkAgg agg ((ls.drop fo).take fsz)).bind fun v => K (.v v) s else none
   | none => none
  | _, _ => none
 | .indexAddr t x i => match s.eval i with
  | .v (.sc (.i0 _ i)) => match (E.ti t).kind, s.eval x with
   | .sl esz _ _ _, .v (.sc (.slr b frm len)) => (s.mem[b]?).bind fun pb => bif Nat.beq pb.cols.length esz then
     chk (decide (0 ≤ i) && decide (i < len)) (KL (.p b (i.toNat + frm) 0 [])) else none
   | .sl esz _ _ zero, .v (.sc (.slf b off e c frm len)) => bif Nat.beq e esz then
     chk (decide (0 ≤ i) && decide (i < len)) (bif zero.all plainL then KL (.p b 0 off [(i.toNat + frm, e, c)]) else
      splitN c (i.toNat + frm) fun j => KL (.p b 0 (off + j * e) [])) else none
   | .arr n esz _, .v (.sc (.p b row off sym)) => chk (decide (0 ≤ i) && decide (i < n)) (bif (E.ti t).zero.all plainL then KL (.p b row off (sym ++ [(i.toNat, esz, n)])) else splitN n i.toNat fun j => KL (.p b row (off + j * esz) sym))
   | _, _ => none
  | _ => none
 | .index t x i => match s.eval i with
  | .v (.sc (.i0 _ i)) => match (E.ti t).kind, s.eval x with
   | .arr n esz agg, .v (.ag ls) => bif Nat.beq ls.length (n * esz) then
     chk (decide (0 ≤ i) && decide (i < n))
      (bif (E.ti t).zero.all plainL then (mkAgg agg ((List.range esz).map fun q => selLV ((List.range n).map fun j => ls.getD (j * esz + q) .unk) i.toNat)).bind fun v => K (.v v) s else
       splitN n i.toNat fun j => (mkAgg agg ((ls.drop (j * esz)).take esz)).bind fun v => K (.v v) s) else none
   | .str, .v (.sc (.s0 b)) => chk (decide (0 ≤ i) && decide (i < b.size)) (KL (.i0 .u8 (b.data.toList.getD i.toNat 0).toNat))
   | _, _ => none
  | _ => none
 | .extract x i => match s.eval x with
  | .tup vs => match vs[i]? with
   | some v => K (.v v) s
   | none => none
  | _ => none
 | .call c => match c.callee with
  | .builtin .len => match c.args.toList, c.argTypes.toList with
   | [x], [t] => match (E.ti t).kind, s.eval x with
    | .sl .., .v (.sc l) => (slLen l).bind fun n => KL (.i0 .i64 n)
    | .str, .v (.sc (.s0 b)) => KL (.i0 .i64 b.size)
    | .arr n _ _, _ => KL (.i0 .i64 n)
    | _, _ => none
   | _, _ => none
  | .builtin .append => match c.args.toList, c.argTypes.toList with
   | [x, y], [t, t'] => bif Nat.beq t t' then match (E.ti t).kind, s.eval x, s.eval y with
    | .sl esz bytes _ zero, .v (.sc lx), .v (.sc ly) => (elemsOf s.mem ly).bind fun nm =>
     bif !zero.isEmpty && Nat.beq zero.length esz && Nat.blt 0 bytes && Nat.beq nm.1.length esz then (bif Nat.blt 0 nm.2 then (match lx with
      | .sln => bif Nat.ble (nm.2 * bytes) 140737488355328 then K (.s (.slr s.mem.length 0 nm.2)) { s with mem := s.mem ++ [⟨true, true, nm.1⟩] } else none
      | .slr b frm n => (s.mem[b]?).bind fun pb =>
       bif pb.own && pb.rowsy && Nat.beq pb.cols.length esz && Nat.ble ((n + nm.2) * bytes) 140737488355328 then
        (allSome (pb.cols.map (shiftLV · frm))).bind fun olds => (catLVs n olds nm.1).bind fun cols =>
         K (.s (.slr s.mem.length 0 (n + nm.2))) { s.scr b with mem := (s.scr b).mem ++ [⟨true, true, cols⟩] }
       else none
      | _ => none) else (match lx with
      | .sln => K (.s .sln) s
      | .slr b frm n => K (.s (.slr b frm n)) s
      | _ => none)) else none
    | _, _, _ => none else none
   | _, _ => none
  | .builtin .min => (minMax false (c.args.toList.map s.eval)).bind KL
  | .builtin .max => (minMax true (c.args.toList.map s.eval)).bind KL
  | .value f => match s.eval f with
   | .v (.sc (.fn f k cap)) =>
    let args := (cap.take k).map PV.s ++ (c.args.toList.map s.eval ++ (cap.drop k).map PV.s)
    match lookFO f E.fns with
    | some o => o β args s.mem fun v m => K v { s with mem := m }
    | none => hd ctx f args s K
   | _ => none
  | _ => none
 | _ => none
noncomputable def exOps (E : Env) (hd : Hd β) (ctx : List Nat) (ops : List Oper) : (i : Nat) → List Oper → St → (St → Option β) → Option β
 | _, [], s, K => K s
 | i, o :: rest, s, K =>
  let go (s : St) : Option β := exOp E hd (i :: ctx) o.op s fun v s' => (s'.put o.dst v).bind fun s'' => exOps E hd ctx ops (i + 1) rest s'' K
  let pass (s : St) : Option β := (s.put o.dst (.tup [])).bind fun s'' => exOps E hd ctx ops (i + 1) rest s'' K
  match o.guard with
  | none => go s
  | some (j, want) => match (ops[j]?).bind (·.dst) with
   | some t => match s.get t with
    | .v (.sc (.b0 b)) =>
     bif b then ((s.put (some t) (.s (.b0 true))).bind fun s => bif want then go s else pass s)
     else ((s.put (some t) (.s (.b0 false))).bind fun s => bif want then pass s else go s)
    | .tup [] => pass s
    | _ => none
   | none => none
end ops
def opTmps (ops : List Oper) (o : Oper) : List Nat :=
 o.dst.toList ++ (o.op.operands.toList.filterMap fun x => match x with | .tmp t => some t | _ => none) ++
 (match o.guard with
  | some (g, _) => ((ops[g]?).bind (·.dst)).toList
  | none => [])
def hasN (b : Nat) : List Nat → Bool
 | [] => false
 | c :: r => Nat.beq b c || hasN b r
def tempsOk (ops : Array Oper) : Bool :=
 let l := ops.toList
 let b := Region.before ops
 (List.range l.length).all fun j => match l[j]? with
  | some o =>
   let ns := opTmps l o
   (o.after.toList.all fun e => !(Region.binds .any e) || Nat.blt e.on j) &&
   (List.range l.length).all fun i => Nat.beq i j || (match (l[i]?).bind (·.dst) with
    | some d => !(hasN d ns) || (bif Nat.blt i j then (b.getD j 0).testBit i else (b.getD i 0).testBit j)
    | none => true)
  | none => true
def quietOp (E : Env) (o : Oper) : Bool :=
 match o.op with
 | .move _ | .assign _ | .pick .. | .alloc _ | .box .. | .build .. | .buildSlice .. | .load .. | .nilCheck _ | .unOp .. | .convert .. | .makeFunc ..
 | .slice .. | .fieldAddr .. | .field .. | .indexAddr .. | .index .. | .extract .. => true
 | .binOp _ t .. => match (E.ti t).kind with
  | .sl .. => false
  | _ => true
 | .call c => match c.callee with
  | .builtin .len | .builtin .min | .builtin .max => true
  | .value (.func f) => (lookFO f E.fns).isSome
  | _ => false
 | _ => false
def quietLen (E : Env) : List Oper → Nat
 | [] => 0
 | o :: r => bif quietOp E o then quietLen E r + 1 else 0
def tailOk (k : Nat) (ops : Array Oper) : Bool :=
 Nat.ble k ops.toList.length &&
 ((ops.toList.take k).all fun o => match o.guard with | some (g, _) => Nat.blt g k | none => true) &&
 let b := Region.before ops
 (List.range' k (ops.toList.length - k)).all fun j => match ops.toList[j]? with
  | some o => (o.after.toList.all fun e => !(Region.binds .any e) || Nat.blt e.on j) && (List.range j).all fun i => (b.getD j 0).testBit i
  | none => true
def splitOk (k : Nat) (ops : Array Oper) : Bool := tempsOk (ops.toList.take k).toArray && tailOk k ops
def drawB (E : Env) (ops : Array Oper) : Bool := (ops.toList.all (quietOp E) && tempsOk ops) || splitOk (quietLen E ops.toList) ops
def stTmp (o : Oper) : Option Nat :=
 match o.guard, o.op with
 | none, .store _ (.tmp t) _ => some t
 | _, _ => none
def ldTmp (o : Oper) : Option Nat :=
 match o.op with
 | .load _ (.tmp t) => some t
 | _ => none
def floats (o : Oper) : Bool :=
 match o.op with
 | .move _ | .assign _ | .extract .. | .fieldAddr .. | .field .. | .indexAddr .. | .nilCheck _ | .binOp .. | .load _ (.tmp _) => true
 | .call c => match c.callee with
  | .builtin .len => true
  | _ => false
 | _ => false
def notDst (t : Nat) (o : Oper) : Bool := match o.dst with | some d => !(Nat.beq d t) | none => true
def mixLen (E : Env) : List Oper → Nat
 | [] => 0
 | o :: r => bif quietOp E o || (stTmp o).isSome then mixLen E r + 1 else 0
def mixFront (E : Env) (ops : Array Oper) : Bool :=
 let l := ops.toList
 let b := Region.before ops
 (l.all fun o => quietOp E o || (stTmp o).isSome) && tempsOk ops &&
 (List.range l.length).all fun j => match (l[j]?).bind stTmp with
  | some t => (l.drop j).all (notDst t) && (List.range l.length).all fun i =>
    bif Nat.blt j i then (b.getD i 0).testBit j else Nat.beq i j || (b.getD j 0).testBit i || (match l[i]? with
     | some o => floats o && (match ldTmp o with | some t' => (l.drop i).all (notDst t') | none => true)
     | none => true)
  | none => true
def mixOk (E : Env) (k : Nat) (ops : Array Oper) : Bool := mixFront E (ops.toList.take k).toArray && tailOk k ops
def ptrBlk (s : St) (t : Nat) : Option Nat := match s.get t with | .v (.sc (.p b _ _ _)) => some b | _ => none
def apartB (ops : Array Oper) (s : St) : Bool :=
 let l := ops.toList
 let b := Region.before ops
 (List.range l.length).all fun j => match (l[j]?).bind stTmp with
  | some t => (List.range j).all fun i => (b.getD j 0).testBit i || (match (l[i]?).bind ldTmp with
    | some t' => (match ptrBlk s t, ptrBlk s t' with | some x, some y => !(Nat.beq x y) | _, _ => false)
    | none => true)
  | none => true
noncomputable def agN {β : Type} : Nat → Option β → Option β
 | 0, x => x
 | n + 1, x => agree x (agN n x)
theorem agN_eq {β : Type} : ∀ (n : Nat) (x : Option β), agN n x = x
 | 0, _ => rfl
 | n + 1, x => by rw [agN, agN_eq n x, agree_self]
def pureOp (o : Oper) : Bool :=
 match o.op with
 | .move _ | .assign _ | .extract .. => true
 | .makeFunc (.func _) _ _ => true
 | .binOp op .. => match op with
  | .eql | .neq => false
  | _ => true
 | _ => false
def pureAt (ops : Array Oper) (listed : Array Bool) (i : Nat) : Bool :=
 (match ops.toList[i]? with | some o => pureOp o && o.guard.isNone | none => false) && Region.free .any ops listed i
def tctx (m : Nat) : List Nat → List Nat
 | [] => []
 | r :: c => (r + 65536 * m) :: c
noncomputable def exTree {β : Type} (E : Env) (hd : Hd β) (ctx : List Nat) (ops : Array Oper) : Nat → Nat → Array Bool → St → (St → Option β) → Option β
 | 0, _, listed, s, K => match Region.ready .any ops listed with
  | [] => K s
  | _ => none
 | n + 1, m, listed, s, K => match Region.ready .any ops listed with
  | [] => K s
  | i :: r => match (i :: r).find? (pureAt ops listed) with
   | some j => match ops.toList[j]? with
    | some o => exOps E hd (tctx m ctx) ops.toList j [o] s fun s' => exTree E hd ctx ops n (m + 2 ^ j) (listed.setIfInBounds j true) s' K
    | none => none
   | none => agreeL ((i :: r).map fun j => match ops.toList[j]? with
    | some o => exOps E hd (tctx m ctx) ops.toList j [o] s fun s' => exTree E hd ctx ops n (m + 2 ^ j) (listed.setIfInBounds j true) s' K
    | none => none)
noncomputable def exDraw {β : Type} (E : Env) (hd : Hd β) (ctx : List Nat) (ops : Array Oper) (s : St) (K : St → Option β) : Option β :=
 bif drawB E ops then exOps E hd ctx ops.toList 0 ops.toList s K else
 bif mixOk E (mixLen E ops.toList) ops then exOps E hd ctx ops.toList 0 (ops.toList.take (mixLen E ops.toList)) s (fun s' =>
  bif apartB (ops.toList.take (mixLen E ops.toList)).toArray s' then exOps E hd ctx ops.toList (mixLen E ops.toList) (ops.toList.drop (mixLen E ops.toList)) s' K else none) else
 bif Region.noSelect ops then exTree E hd ctx ops ops.size 0 (Array.replicate ops.size false) s K else none
def loopsIn : Code → List Code
 | .loop b => b :: loopsIn b
 | .seq a b => loopsIn a ++ loopsIn b
 | .cond _ a b => loopsIn a ++ loopsIn b
 | .block _ a => loopsIn a
 | _ => []
def firstRegion : Code → Nat
 | .region id _ _ => id
 | .seq a _ => firstRegion a
 | .block _ a => firstRegion a
 | .loop a => firstRegion a
 | .scope a => firstRegion a
 | _ => 0
section code
variable {β : Type}
noncomputable def exC (E : Env) (hd : Hd β) (ctx : List Nat) : Code → St → (St → Option β) → (Nat → St → Option β) → (St → Option β) → Option β
 | .skip, s, kn, _, _ => kn s
 | .label _, s, kn, _, _ => kn s
 | .region id ops draw, s, kn, _, _ =>
  bif draw then exDraw E hd (id :: ctx) ops s kn else exOps E hd (id :: ctx) ops.toList 0 ops.toList s kn
 | .seq a b, s, kn, kx, kr => exC E hd ctx a s (fun s' => exC E hd ctx b s' kn kx kr) kx kr
 | .cond c a b, s, kn, kx, kr => match s.eval c with
  | .v (.sc (.b0 t)) => bif t then exC E hd ctx a s kn kx kr else exC E hd ctx b s kn kx kr
  | _ => none
 | .block id c, s, kn, kx, kr => exC E hd ctx c s kn (fun j s' => bif Nat.beq j id then kn s' else kx j s') kr
 | .loop body, s, _, kx, kr => match lookLO (firstRegion body :: ctx) E.loops with
  | some lo => lo β s kx kr
  | none => none
 | .exit id, s, _, kx, _ => kx id s
 | .ret, s, _, _, kr => kr s
 | _, _, _, _, _ => none
def resOne (E : Env) (s : St) : ResultVar → Option V1
 | .tmp t => (s.get t).one
 | .cell a t => match s.get a with
  | .v (.sc (.p blk row off sym)) => (s.mem[blk]?).bind fun pb =>
   bif (E.ti t).kind.known && Nat.ble (off + (E.ti t).sz + symMax sym) pb.cols.length then
    bif (E.ti t).kind.agg then some (.ag ((List.range (E.ti t).sz).map fun q => rdSym pb.cols row (off + q) sym))
    else bif Nat.beq (E.ti t).sz 1 then some (.sc (rdSym pb.cols row off sym)) else none
   else none
  | _ => none
def resVals (E : Env) (s : St) : List ResultVar → Option (List V1)
 | [] => some []
 | r :: rs => (resOne E s r).bind fun v => (resVals E s rs).map (v :: ·)
def resOf (E : Env) (fn : Func) (s : St) : Option PV :=
 (resVals E s fn.results.toList).bind fun vs => match vs with
  | [v] => some (.v v)
  | vs => some (.tup vs)
def zipN {α : Type} : Nat → List α → List (Nat × α)
 | _, [] => []
 | i, x :: r => (i, x) :: zipN (i + 1) r
def enterFr (fn : Func) (args : List PV) : Option Fr :=
 bif Nat.ble args.length fn.ntmps then some ⟨fn.ntmps, zipN 0 args⟩ else none
noncomputable def exFn (E : Env) (hd : Hd β) (ctx : List Nat) (fn : Func) (args : List PV) (s : St) (K : PV → St → Option β) : Option β :=
 match fn.body with
 | some c => (enterFr fn args).bind fun fr =>
  let ret (s' : St) : Option β := (resOf E fn s').bind fun v => match s'.low with
   | f :: low => K v { fr := f, low, mem := s'.mem }
   | [] => none
  exC E hd ctx c { fr, low := s.fr :: s.low, mem := s.mem } ret (fun _ _ => none) ret
 | none => none
noncomputable def hdl (E : Env) : Nat → Hd β
 | 0 => fun _ _ _ _ _ => none
 | d + 1 => fun ctx f args s K => match lookN f E.inl with
  | some fn => exFn E (hdl E d) (f :: ctx) fn args s K
  | none => none
end code
end Go.Sy
