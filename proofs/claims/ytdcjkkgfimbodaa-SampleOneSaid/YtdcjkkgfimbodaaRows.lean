/-
  No cell of these rows narrows 'for every input' (looked for: loops, veiled, ifaces, maps, wideKeys, modest, calm, conditions, laid).
  DERIVED. THE GIVEN ROWS OF THIS SEAT. 5 by the template 'for every input the law returns true; each argument reads behind the call as it read before'; 0 by the template 'total and deterministic' (their statements: YtdcjkkgfimbodaaTotals.lean).
  GIVEN WITH THE SEED: the statements are not yours to turn. If you find one false, say at which input.
  Laid BY PROGRAM, IN A SANDBOX (cutbox-rows.mjs): the forced cells as the released guide's own fill.sh prints them over the translation baaed95a4ebadebf… (all of the seat's roots in one cut). By AI agents, Wed Nov 11 2026. No macro, syntax, notation, axiom, sorry.
-/
import Derived.Test.YtdcjkkgfimbodaaChecked
import GoSem.Claim
import GoSem.ClaimJoined
import GoSem.ClaimMapViews
import Derived.JoinedTies
import Derived.KernelRfl
namespace Go.Proofs.Ytdcjkkgfimbodaa
/- THE CELL 'sum', in the pinned program and in every row, IS THE sha256 OF THE DUMP (.gsa) THAT YtdcjkkgfimbodaaProg.lean LOADS. Nothing in Lean hashes anything: it is a label: what it is worth is what the hold of that sum in a sandbox is worth. -/
noncomputable def Try.pinned : Pinned := { name := "ytdcjkkgfimbodaa", sum := "baaed95a4ebadebf3d2e1eed0b32ddf2d5b77a61af78f8900e4758dd6e9cdad5", checked := Try.checked }
namespace Rows
def none {H : Type} : Left H := { results := [], args := [] }

/-- 'rheostatlaw13.SampleReads': WHATEVER THE INPUT: true; the input reads as it did. -/
def sampleReadsSpec : ChangeSpec := { name := "sampleReads", fn := fun _ => fun
  | [d1, d2, d3] => { results := [.lit (.bool true)], args := [d1, d2, d3] }
  | _ => none }
def sampleReadsRow : OpenClaim := { program := "ytdcjkkgfimbodaa", sum := "baaed95a4ebadebf3d2e1eed0b32ddf2d5b77a61af78f8900e4758dd6e9cdad5", func := "rheostat/rheostatlaw13.SampleReads", spec := "sampleReads", inPlace := ["math/bits.Sub64"], unfollowed := true, recurses := true, named := ["math/bits.overflowError", "math/bits.divideError"], apart := false }
def SampleReadsSaid : Prop := sampleReadsRow.holds Try.pinned (OpenSpec.ofChange sampleReadsSpec)

/-- ITS FALSE NEIGHBOUR: 'it returns false'. Refute it at one input. -/
def sampleReadsWrong : ChangeSpec := { name := "sampleReads", fn := fun _ => fun
  | [d1, d2, d3] => { results := [.lit (.bool false)], args := [d1, d2, d3] }
  | _ => none }
def SampleReadsWrongFalsely : Prop := sampleReadsRow.holds Try.pinned (OpenSpec.ofChange sampleReadsWrong)

/-- 'rheostatlaw13.SampleBounds': WHATEVER THE INPUT: true; the input reads as it did. -/
def sampleBoundsSpec : ChangeSpec := { name := "sampleBounds", fn := fun _ => fun
  | [d1, d2] => { results := [.lit (.bool true)], args := [d1, d2] }
  | _ => none }
def sampleBoundsRow : OpenClaim := { program := "ytdcjkkgfimbodaa", sum := "baaed95a4ebadebf3d2e1eed0b32ddf2d5b77a61af78f8900e4758dd6e9cdad5", func := "rheostat/rheostatlaw13.SampleBounds", spec := "sampleBounds", inPlace := ["math/bits.Sub64"], unfollowed := true, recurses := true, named := ["math/bits.overflowError", "math/bits.divideError"], apart := false }
def SampleBoundsSaid : Prop := sampleBoundsRow.holds Try.pinned (OpenSpec.ofChange sampleBoundsSpec)

/-- ITS FALSE NEIGHBOUR: 'it returns false'. Refute it at one input. -/
def sampleBoundsWrong : ChangeSpec := { name := "sampleBounds", fn := fun _ => fun
  | [d1, d2] => { results := [.lit (.bool false)], args := [d1, d2] }
  | _ => none }
def SampleBoundsWrongFalsely : Prop := sampleBoundsRow.holds Try.pinned (OpenSpec.ofChange sampleBoundsWrong)

/-- 'rheostatlaw13.SampleWider': WHATEVER THE INPUT: true; the input reads as it did. -/
def sampleWiderSpec : ChangeSpec := { name := "sampleWider", fn := fun _ => fun
  | [d1, d2, d3] => { results := [.lit (.bool true)], args := [d1, d2, d3] }
  | _ => none }
def sampleWiderRow : OpenClaim := { program := "ytdcjkkgfimbodaa", sum := "baaed95a4ebadebf3d2e1eed0b32ddf2d5b77a61af78f8900e4758dd6e9cdad5", func := "rheostat/rheostatlaw13.SampleWider", spec := "sampleWider", inPlace := ["math/bits.Sub64"], unfollowed := true, recurses := true, named := ["math/bits.overflowError", "math/bits.divideError"], apart := false }
def SampleWiderSaid : Prop := sampleWiderRow.holds Try.pinned (OpenSpec.ofChange sampleWiderSpec)

/-- ITS FALSE NEIGHBOUR: 'it returns false'. Refute it at one input. -/
def sampleWiderWrong : ChangeSpec := { name := "sampleWider", fn := fun _ => fun
  | [d1, d2, d3] => { results := [.lit (.bool false)], args := [d1, d2, d3] }
  | _ => none }
def SampleWiderWrongFalsely : Prop := sampleWiderRow.holds Try.pinned (OpenSpec.ofChange sampleWiderWrong)

/-- 'rheostatlaw13.SampleJoins': WHATEVER THE INPUT: true; the input reads as it did. -/
def sampleJoinsSpec : ChangeSpec := { name := "sampleJoins", fn := fun _ => fun
  | [d1, d2] => { results := [.lit (.bool true)], args := [d1, d2] }
  | _ => none }
def sampleJoinsRow : OpenClaim := { program := "ytdcjkkgfimbodaa", sum := "baaed95a4ebadebf3d2e1eed0b32ddf2d5b77a61af78f8900e4758dd6e9cdad5", func := "rheostat/rheostatlaw13.SampleJoins", spec := "sampleJoins", inPlace := ["math/bits.Sub64"], unfollowed := true, recurses := true, named := ["math/bits.overflowError", "math/bits.divideError"], apart := false }
def SampleJoinsSaid : Prop := sampleJoinsRow.holds Try.pinned (OpenSpec.ofChange sampleJoinsSpec)

/-- ITS FALSE NEIGHBOUR: 'it returns false'. Refute it at one input. -/
def sampleJoinsWrong : ChangeSpec := { name := "sampleJoins", fn := fun _ => fun
  | [d1, d2] => { results := [.lit (.bool false)], args := [d1, d2] }
  | _ => none }
def SampleJoinsWrongFalsely : Prop := sampleJoinsRow.holds Try.pinned (OpenSpec.ofChange sampleJoinsWrong)

/-- 'rheostatlaw13.SampleOne': WHATEVER THE INPUT: true; the input reads as it did. -/
def sampleOneSpec : ChangeSpec := { name := "sampleOne", fn := fun _ => fun
  | [d1, d2] => { results := [.lit (.bool true)], args := [d1, d2] }
  | _ => none }
def sampleOneRow : OpenClaim := { program := "ytdcjkkgfimbodaa", sum := "baaed95a4ebadebf3d2e1eed0b32ddf2d5b77a61af78f8900e4758dd6e9cdad5", func := "rheostat/rheostatlaw13.SampleOne", spec := "sampleOne", inPlace := ["math/bits.Sub64"], unfollowed := true, recurses := true, named := ["math/bits.overflowError", "math/bits.divideError"], apart := false }
def SampleOneSaid : Prop := sampleOneRow.holds Try.pinned (OpenSpec.ofChange sampleOneSpec)

/-- ITS FALSE NEIGHBOUR: 'it returns false'. Refute it at one input. -/
def sampleOneWrong : ChangeSpec := { name := "sampleOne", fn := fun _ => fun
  | [d1, d2] => { results := [.lit (.bool false)], args := [d1, d2] }
  | _ => none }
def SampleOneWrongFalsely : Prop := sampleOneRow.holds Try.pinned (OpenSpec.ofChange sampleOneWrong)

/- THE SECOND FORM. 'bulk': how many values and letters a reading holds, each counted each time it is reached (what is shared counts as often as it is met; a slice's spare places count too). A statement '..UptoSaid' is the law's where the arguments, and the package variables that the reading takes, are together of bulk at most 1048576: NARROWER than '..Said'. Prove '..Said' where nothing that the law and all that it calls make is longer than what came in: it says more and counts as full. Else prove '..UptoSaid'. A law counts once. -/
mutual
def uptoBulk {H : Type} : DataW H → Nat
  | .lit (.string bytes) => bytes.length + 1
  | .lit _ => 1
  | .nil => 1
  | .ptr d => uptoBulk d + 1
  | .slice elems spare => uptoBulkAll elems + uptoBulkAll spare + 1
  | .agg parts => uptoBulkAll parts + 1
  | .iface _ d => uptoBulk d + 1
  | .map entries => uptoBulkEntries entries + 1
  | .held _ => 1
def uptoBulkAll {H : Type} : List (DataW H) → Nat
  | [] => 0
  | d :: r => uptoBulk d + uptoBulkAll r
def uptoBulkEntries {H : Type} : List (Lit × DataW H) → Nat
  | [] => 0
  | x :: r => uptoBulkEntry x + uptoBulkEntries r
def uptoBulkEntry {H : Type} : Lit × DataW H → Nat
  | (.string bytes, d) => bytes.length + uptoBulk d + 1
  | (_, d) => uptoBulk d + 1
 end
def uptoSmall : (H : Type) → List (DataW H) → Bool := fun _ ds => decide (uptoBulkAll ds ≤ 1048576)
def OpenSpec.upto (s : _root_.Go.ChangeSpec) : _root_.Go.OpenSpec := { _root_.Go.OpenSpec.ofChange s with cond := some uptoSmall }

/-- 'rheostatlaw13.SampleReads', WHERE WHAT IT READS IS OF BULK AT MOST 1048576: true; the input reads as it did. -/
def sampleReadsUptoRow : OpenClaim := { program := "ytdcjkkgfimbodaa", sum := "baaed95a4ebadebf3d2e1eed0b32ddf2d5b77a61af78f8900e4758dd6e9cdad5", func := "rheostat/rheostatlaw13.SampleReads", spec := "sampleReads", inPlace := ["math/bits.Sub64"], unfollowed := true, recurses := true, named := ["math/bits.overflowError", "math/bits.divideError"], apart := false, narrowed := true }
def SampleReadsUptoSaid : Prop := sampleReadsUptoRow.holds Try.pinned (OpenSpec.upto sampleReadsSpec)

/-- 'rheostatlaw13.SampleBounds', WHERE WHAT IT READS IS OF BULK AT MOST 1048576: true; the input reads as it did. -/
def sampleBoundsUptoRow : OpenClaim := { program := "ytdcjkkgfimbodaa", sum := "baaed95a4ebadebf3d2e1eed0b32ddf2d5b77a61af78f8900e4758dd6e9cdad5", func := "rheostat/rheostatlaw13.SampleBounds", spec := "sampleBounds", inPlace := ["math/bits.Sub64"], unfollowed := true, recurses := true, named := ["math/bits.overflowError", "math/bits.divideError"], apart := false, narrowed := true }
def SampleBoundsUptoSaid : Prop := sampleBoundsUptoRow.holds Try.pinned (OpenSpec.upto sampleBoundsSpec)

/-- 'rheostatlaw13.SampleWider', WHERE WHAT IT READS IS OF BULK AT MOST 1048576: true; the input reads as it did. -/
def sampleWiderUptoRow : OpenClaim := { program := "ytdcjkkgfimbodaa", sum := "baaed95a4ebadebf3d2e1eed0b32ddf2d5b77a61af78f8900e4758dd6e9cdad5", func := "rheostat/rheostatlaw13.SampleWider", spec := "sampleWider", inPlace := ["math/bits.Sub64"], unfollowed := true, recurses := true, named := ["math/bits.overflowError", "math/bits.divideError"], apart := false, narrowed := true }
def SampleWiderUptoSaid : Prop := sampleWiderUptoRow.holds Try.pinned (OpenSpec.upto sampleWiderSpec)

/-- 'rheostatlaw13.SampleJoins', WHERE WHAT IT READS IS OF BULK AT MOST 1048576: true; the input reads as it did. -/
def sampleJoinsUptoRow : OpenClaim := { program := "ytdcjkkgfimbodaa", sum := "baaed95a4ebadebf3d2e1eed0b32ddf2d5b77a61af78f8900e4758dd6e9cdad5", func := "rheostat/rheostatlaw13.SampleJoins", spec := "sampleJoins", inPlace := ["math/bits.Sub64"], unfollowed := true, recurses := true, named := ["math/bits.overflowError", "math/bits.divideError"], apart := false, narrowed := true }
def SampleJoinsUptoSaid : Prop := sampleJoinsUptoRow.holds Try.pinned (OpenSpec.upto sampleJoinsSpec)

/-- 'rheostatlaw13.SampleOne', WHERE WHAT IT READS IS OF BULK AT MOST 1048576: true; the input reads as it did. -/
def sampleOneUptoRow : OpenClaim := { program := "ytdcjkkgfimbodaa", sum := "baaed95a4ebadebf3d2e1eed0b32ddf2d5b77a61af78f8900e4758dd6e9cdad5", func := "rheostat/rheostatlaw13.SampleOne", spec := "sampleOne", inPlace := ["math/bits.Sub64"], unfollowed := true, recurses := true, named := ["math/bits.overflowError", "math/bits.divideError"], apart := false, narrowed := true }
def SampleOneUptoSaid : Prop := sampleOneUptoRow.holds Try.pinned (OpenSpec.upto sampleOneSpec)

end Rows
end Go.Proofs.Ytdcjkkgfimbodaa
