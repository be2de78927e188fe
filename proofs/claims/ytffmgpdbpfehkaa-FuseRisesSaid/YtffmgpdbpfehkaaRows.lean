/-
  No cell of these rows narrows 'for every input' (looked for: loops, veiled, ifaces, maps, wideKeys, modest, calm, conditions, laid).
  DERIVED. THE GIVEN ROWS OF THIS SEAT. 4 by the template 'for every input the law returns true; each argument reads behind the call as it read before'; 0 by the template 'total and deterministic' (their statements: YtffmgpdbpfehkaaTotals.lean).
  GIVEN WITH THE SEED: the statements are not yours to turn. If you find one false, say at which input.
  Laid BY PROGRAM, IN A SANDBOX (cutbox-rows.mjs): the forced cells as the released guide's own fill.sh prints them over the translation d4a0e31a28adefa2… (all of the seat's roots in one cut). By AI agents, Wed Nov 11 2026. No macro, syntax, notation, axiom, sorry.
-/
import Derived.Test.YtffmgpdbpfehkaaChecked
import GoSem.Claim
import GoSem.ClaimJoined
import GoSem.ClaimMapViews
import Derived.JoinedTies
import Derived.KernelRfl
namespace Go.Proofs.Ytffmgpdbpfehkaa
/- THE CELL 'sum', in the pinned program and in every row, IS THE sha256 OF THE DUMP (.gsa) THAT YtffmgpdbpfehkaaProg.lean LOADS. Nothing in Lean hashes anything: it is a label: what it is worth is what the hold of that sum in a sandbox is worth. -/
noncomputable def Try.pinned : Pinned := { name := "ytffmgpdbpfehkaa", sum := "d4a0e31a28adefa25808198d5315d33c975fdcbb7110ab498c7a189f95c03b3a", checked := Try.checked }
namespace Rows
def none {H : Type} : Left H := { results := [], args := [] }

/-- 'rheostatlaw17.FuseBounds': WHATEVER THE INPUT: true; the input reads as it did. -/
def fuseBoundsSpec : ChangeSpec := { name := "fuseBounds", fn := fun _ => fun
  | [d1, d2, d3] => { results := [.lit (.bool true)], args := [d1, d2, d3] }
  | _ => none }
def fuseBoundsRow : OpenClaim := { program := "ytffmgpdbpfehkaa", sum := "d4a0e31a28adefa25808198d5315d33c975fdcbb7110ab498c7a189f95c03b3a", func := "rheostat/rheostatlaw17.FuseBounds", spec := "fuseBounds", inPlace := ["math/bits.Sub64"], unfollowed := true, recurses := true, named := ["math/bits.overflowError", "math/bits.divideError"], apart := false }
def FuseBoundsSaid : Prop := fuseBoundsRow.holds Try.pinned (OpenSpec.ofChange fuseBoundsSpec)

/-- ITS FALSE NEIGHBOUR: 'it returns false'. Refute it at one input. -/
def fuseBoundsWrong : ChangeSpec := { name := "fuseBounds", fn := fun _ => fun
  | [d1, d2, d3] => { results := [.lit (.bool false)], args := [d1, d2, d3] }
  | _ => none }
def FuseBoundsWrongFalsely : Prop := fuseBoundsRow.holds Try.pinned (OpenSpec.ofChange fuseBoundsWrong)

/-- 'rheostatlaw17.FuseKeeps': WHATEVER THE INPUT: true; the input reads as it did. -/
def fuseKeepsSpec : ChangeSpec := { name := "fuseKeeps", fn := fun _ => fun
  | [d1, d2, d3] => { results := [.lit (.bool true)], args := [d1, d2, d3] }
  | _ => none }
def fuseKeepsRow : OpenClaim := { program := "ytffmgpdbpfehkaa", sum := "d4a0e31a28adefa25808198d5315d33c975fdcbb7110ab498c7a189f95c03b3a", func := "rheostat/rheostatlaw17.FuseKeeps", spec := "fuseKeeps", inPlace := ["math/bits.Sub64"], unfollowed := true, recurses := true, named := ["math/bits.overflowError", "math/bits.divideError"], apart := false }
def FuseKeepsSaid : Prop := fuseKeepsRow.holds Try.pinned (OpenSpec.ofChange fuseKeepsSpec)

/-- ITS FALSE NEIGHBOUR: 'it returns false'. Refute it at one input. -/
def fuseKeepsWrong : ChangeSpec := { name := "fuseKeeps", fn := fun _ => fun
  | [d1, d2, d3] => { results := [.lit (.bool false)], args := [d1, d2, d3] }
  | _ => none }
def FuseKeepsWrongFalsely : Prop := fuseKeepsRow.holds Try.pinned (OpenSpec.ofChange fuseKeepsWrong)

/-- 'rheostatlaw17.FuseTells': WHATEVER THE INPUT: true; the input reads as it did. -/
def fuseTellsSpec : ChangeSpec := { name := "fuseTells", fn := fun _ => fun
  | [d1, d2, d3, d4, d5, d6] => { results := [.lit (.bool true)], args := [d1, d2, d3, d4, d5, d6] }
  | _ => none }
def fuseTellsRow : OpenClaim := { program := "ytffmgpdbpfehkaa", sum := "d4a0e31a28adefa25808198d5315d33c975fdcbb7110ab498c7a189f95c03b3a", func := "rheostat/rheostatlaw17.FuseTells", spec := "fuseTells", inPlace := ["math/bits.Sub64"], unfollowed := true, recurses := true, named := ["math/bits.overflowError", "math/bits.divideError"], apart := false }
def FuseTellsSaid : Prop := fuseTellsRow.holds Try.pinned (OpenSpec.ofChange fuseTellsSpec)

/-- ITS FALSE NEIGHBOUR: 'it returns false'. Refute it at one input. -/
def fuseTellsWrong : ChangeSpec := { name := "fuseTells", fn := fun _ => fun
  | [d1, d2, d3, d4, d5, d6] => { results := [.lit (.bool false)], args := [d1, d2, d3, d4, d5, d6] }
  | _ => none }
def FuseTellsWrongFalsely : Prop := fuseTellsRow.holds Try.pinned (OpenSpec.ofChange fuseTellsWrong)

/-- 'rheostatlaw17.FuseRises': WHATEVER THE INPUT: true; the input reads as it did. -/
def fuseRisesSpec : ChangeSpec := { name := "fuseRises", fn := fun _ => fun
  | [d1, d2, d3, d4] => { results := [.lit (.bool true)], args := [d1, d2, d3, d4] }
  | _ => none }
def fuseRisesRow : OpenClaim := { program := "ytffmgpdbpfehkaa", sum := "d4a0e31a28adefa25808198d5315d33c975fdcbb7110ab498c7a189f95c03b3a", func := "rheostat/rheostatlaw17.FuseRises", spec := "fuseRises", inPlace := ["math/bits.Sub64"], unfollowed := true, recurses := true, named := ["math/bits.overflowError", "math/bits.divideError"], apart := false }
def FuseRisesSaid : Prop := fuseRisesRow.holds Try.pinned (OpenSpec.ofChange fuseRisesSpec)

/-- ITS FALSE NEIGHBOUR: 'it returns false'. Refute it at one input. -/
def fuseRisesWrong : ChangeSpec := { name := "fuseRises", fn := fun _ => fun
  | [d1, d2, d3, d4] => { results := [.lit (.bool false)], args := [d1, d2, d3, d4] }
  | _ => none }
def FuseRisesWrongFalsely : Prop := fuseRisesRow.holds Try.pinned (OpenSpec.ofChange fuseRisesWrong)

/- THE SECOND FORM. 'bulk': how many values and letters a reading holds, each counted each time it is reached (what is shared counts as often as it is met; a slice's spare places count too). A statement '..UptoSaid' is the law's where the arguments, and the package variables that the reading takes, are together of bulk at most 1048576: NARROWER than '..Said'. Prove '..Said' where nothing that the law and all that it calls make is longer than what came in: it says more and counts as full. Else prove '..UptoSaid'. A law counts once. -/
mutual
def uptoBulk {H : Type} : DataW H → Nat
  | .lit (.string bytes) => bytes.length + 1
  | .lit _ => 1
  | .nil => 1
  | .ptr d => uptoBulk d + 1
  | .slice elems spare => uptoBulkAll elems + uptoBulkAll spare + 1
  | .agg parts => uptoBulkAll parts + 1
  | .iface _ d => uptoBulk d + 1
  | .map entries => uptoBulkEntries entries + 1
  | .held _ => 1
def uptoBulkAll {H : Type} : List (DataW H) → Nat
  | [] => 0
  | d :: r => uptoBulk d + uptoBulkAll r
def uptoBulkEntries {H : Type} : List (Lit × DataW H) → Nat
  | [] => 0
  | x :: r => uptoBulkEntry x + uptoBulkEntries r
def uptoBulkEntry {H : Type} : Lit × DataW H → Nat
  | (.string bytes, d) => bytes.length + uptoBulk d + 1
  | (_, d) => uptoBulk d + 1
 end
def uptoSmall : (H : Type) → List (DataW H) → Bool := fun _ ds => decide (uptoBulkAll ds ≤ 1048576)
def OpenSpec.upto (s : _root_.Go.ChangeSpec) : _root_.Go.OpenSpec := { _root_.Go.OpenSpec.ofChange s with cond := some uptoSmall }

/-- 'rheostatlaw17.FuseBounds', WHERE WHAT IT READS IS OF BULK AT MOST 1048576: true; the input reads as it did. -/
def fuseBoundsUptoRow : OpenClaim := { program := "ytffmgpdbpfehkaa", sum := "d4a0e31a28adefa25808198d5315d33c975fdcbb7110ab498c7a189f95c03b3a", func := "rheostat/rheostatlaw17.FuseBounds", spec := "fuseBounds", inPlace := ["math/bits.Sub64"], unfollowed := true, recurses := true, named := ["math/bits.overflowError", "math/bits.divideError"], apart := false, narrowed := true }
def FuseBoundsUptoSaid : Prop := fuseBoundsUptoRow.holds Try.pinned (OpenSpec.upto fuseBoundsSpec)

/-- 'rheostatlaw17.FuseKeeps', WHERE WHAT IT READS IS OF BULK AT MOST 1048576: true; the input reads as it did. -/
def fuseKeepsUptoRow : OpenClaim := { program := "ytffmgpdbpfehkaa", sum := "d4a0e31a28adefa25808198d5315d33c975fdcbb7110ab498c7a189f95c03b3a", func := "rheostat/rheostatlaw17.FuseKeeps", spec := "fuseKeeps", inPlace := ["math/bits.Sub64"], unfollowed := true, recurses := true, named := ["math/bits.overflowError", "math/bits.divideError"], apart := false, narrowed := true }
def FuseKeepsUptoSaid : Prop := fuseKeepsUptoRow.holds Try.pinned (OpenSpec.upto fuseKeepsSpec)

/-- 'rheostatlaw17.FuseTells', WHERE WHAT IT READS IS OF BULK AT MOST 1048576: true; the input reads as it did. -/
def fuseTellsUptoRow : OpenClaim := { program := "ytffmgpdbpfehkaa", sum := "d4a0e31a28adefa25808198d5315d33c975fdcbb7110ab498c7a189f95c03b3a", func := "rheostat/rheostatlaw17.FuseTells", spec := "fuseTells", inPlace := ["math/bits.Sub64"], unfollowed := true, recurses := true, named := ["math/bits.overflowError", "math/bits.divideError"], apart := false, narrowed := true }
def FuseTellsUptoSaid : Prop := fuseTellsUptoRow.holds Try.pinned (OpenSpec.upto fuseTellsSpec)

/-- 'rheostatlaw17.FuseRises', WHERE WHAT IT READS IS OF BULK AT MOST 1048576: true; the input reads as it did. -/
def fuseRisesUptoRow : OpenClaim := { program := "ytffmgpdbpfehkaa", sum := "d4a0e31a28adefa25808198d5315d33c975fdcbb7110ab498c7a189f95c03b3a", func := "rheostat/rheostatlaw17.FuseRises", spec := "fuseRises", inPlace := ["math/bits.Sub64"], unfollowed := true, recurses := true, named := ["math/bits.overflowError", "math/bits.divideError"], apart := false, narrowed := true }
def FuseRisesUptoSaid : Prop := fuseRisesUptoRow.holds Try.pinned (OpenSpec.upto fuseRisesSpec)

end Rows
end Go.Proofs.Ytffmgpdbpfehkaa
