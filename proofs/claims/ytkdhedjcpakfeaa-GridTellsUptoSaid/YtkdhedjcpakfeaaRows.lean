/-
  No cell of these rows narrows 'for every input' (looked for: loops, veiled, ifaces, maps, wideKeys, modest, calm, conditions, laid).
  DERIVED. THE GIVEN ROWS OF THIS SEAT. 6 by the template 'for every input the law returns true; each argument reads behind the call as it read before'; 0 by the template 'total and deterministic' (their statements: YtkdhedjcpakfeaaTotals.lean).
  GIVEN WITH THE SEED: the statements are not yours to turn. If you find one false, say at which input.
  Laid BY PROGRAM, IN A SANDBOX (cutbox-rows.mjs): the forced cells as the released guide's own fill.sh prints them over the translation 6af33f41fe97b465… (all of the seat's roots in one cut). By AI agents, Wed Nov 11 2026. No macro, syntax, notation, axiom, sorry.
-/
import Derived.Test.YtkdhedjcpakfeaaChecked
import GoSem.Claim
import GoSem.ClaimJoined
import GoSem.ClaimMapViews
import Derived.JoinedTies
import Derived.KernelRfl
namespace Go.Proofs.Ytkdhedjcpakfeaa
/- THE CELL 'sum', in the pinned program and in every row, IS THE sha256 OF THE DUMP (.gsa) THAT YtkdhedjcpakfeaaProg.lean LOADS. Nothing in Lean hashes anything: it is a label: what it is worth is what the hold of that sum in a sandbox is worth. -/
noncomputable def Try.pinned : Pinned := { name := "ytkdhedjcpakfeaa", sum := "6af33f41fe97b46545c3ca6cc71855d932a3ec429fa1e0e7621314c80ca88e02", checked := Try.checked }
namespace Rows
def none {H : Type} : Left H := { results := [], args := [] }

/-- 'rheostatlaw11.GridCorners': WHATEVER THE INPUT: true; the input reads as it did. -/
def gridCornersSpec : ChangeSpec := { name := "gridCorners", fn := fun _ => fun
  | [d1, d2, d3] => { results := [.lit (.bool true)], args := [d1, d2, d3] }
  | _ => none }
def gridCornersRow : OpenClaim := { program := "ytkdhedjcpakfeaa", sum := "6af33f41fe97b46545c3ca6cc71855d932a3ec429fa1e0e7621314c80ca88e02", func := "rheostat/rheostatlaw11.GridCorners", spec := "gridCorners", inPlace := ["math/bits.Sub64"], unfollowed := true, recurses := true, named := ["math/bits.overflowError", "math/bits.divideError"], apart := false }
def GridCornersSaid : Prop := gridCornersRow.holds Try.pinned (OpenSpec.ofChange gridCornersSpec)

/-- ITS FALSE NEIGHBOUR: 'it returns false'. Refute it at one input. -/
def gridCornersWrong : ChangeSpec := { name := "gridCorners", fn := fun _ => fun
  | [d1, d2, d3] => { results := [.lit (.bool false)], args := [d1, d2, d3] }
  | _ => none }
def GridCornersWrongFalsely : Prop := gridCornersRow.holds Try.pinned (OpenSpec.ofChange gridCornersWrong)

/-- 'rheostatlaw11.GridBounds': WHATEVER THE INPUT: true; the input reads as it did. -/
def gridBoundsSpec : ChangeSpec := { name := "gridBounds", fn := fun _ => fun
  | [d1, d2, d3] => { results := [.lit (.bool true)], args := [d1, d2, d3] }
  | _ => none }
def gridBoundsRow : OpenClaim := { program := "ytkdhedjcpakfeaa", sum := "6af33f41fe97b46545c3ca6cc71855d932a3ec429fa1e0e7621314c80ca88e02", func := "rheostat/rheostatlaw11.GridBounds", spec := "gridBounds", inPlace := ["math/bits.Sub64"], unfollowed := true, recurses := true, named := ["math/bits.overflowError", "math/bits.divideError"], apart := false }
def GridBoundsSaid : Prop := gridBoundsRow.holds Try.pinned (OpenSpec.ofChange gridBoundsSpec)

/-- ITS FALSE NEIGHBOUR: 'it returns false'. Refute it at one input. -/
def gridBoundsWrong : ChangeSpec := { name := "gridBounds", fn := fun _ => fun
  | [d1, d2, d3] => { results := [.lit (.bool false)], args := [d1, d2, d3] }
  | _ => none }
def GridBoundsWrongFalsely : Prop := gridBoundsRow.holds Try.pinned (OpenSpec.ofChange gridBoundsWrong)

/-- 'rheostatlaw11.GridOne': WHATEVER THE INPUT: true; the input reads as it did. -/
def gridOneSpec : ChangeSpec := { name := "gridOne", fn := fun _ => fun
  | [d1, d2, d3] => { results := [.lit (.bool true)], args := [d1, d2, d3] }
  | _ => none }
def gridOneRow : OpenClaim := { program := "ytkdhedjcpakfeaa", sum := "6af33f41fe97b46545c3ca6cc71855d932a3ec429fa1e0e7621314c80ca88e02", func := "rheostat/rheostatlaw11.GridOne", spec := "gridOne", inPlace := ["math/bits.Sub64"], unfollowed := true, recurses := true, named := ["math/bits.overflowError", "math/bits.divideError"], apart := false }
def GridOneSaid : Prop := gridOneRow.holds Try.pinned (OpenSpec.ofChange gridOneSpec)

/-- ITS FALSE NEIGHBOUR: 'it returns false'. Refute it at one input. -/
def gridOneWrong : ChangeSpec := { name := "gridOne", fn := fun _ => fun
  | [d1, d2, d3] => { results := [.lit (.bool false)], args := [d1, d2, d3] }
  | _ => none }
def GridOneWrongFalsely : Prop := gridOneRow.holds Try.pinned (OpenSpec.ofChange gridOneWrong)

/-- 'rheostatlaw11.GridCopies': WHATEVER THE INPUT: true; the input reads as it did. -/
def gridCopiesSpec : ChangeSpec := { name := "gridCopies", fn := fun _ => fun
  | [d] => { results := [.lit (.bool true)], args := [d] }
  | _ => none }
def gridCopiesRow : OpenClaim := { program := "ytkdhedjcpakfeaa", sum := "6af33f41fe97b46545c3ca6cc71855d932a3ec429fa1e0e7621314c80ca88e02", func := "rheostat/rheostatlaw11.GridCopies", spec := "gridCopies", inPlace := ["math/bits.Sub64"], unfollowed := true, recurses := true, named := ["math/bits.overflowError", "math/bits.divideError"], apart := false }
def GridCopiesSaid : Prop := gridCopiesRow.holds Try.pinned (OpenSpec.ofChange gridCopiesSpec)

/-- ITS FALSE NEIGHBOUR: 'it returns false'. Refute it at one input. -/
def gridCopiesWrong : ChangeSpec := { name := "gridCopies", fn := fun _ => fun
  | [d] => { results := [.lit (.bool false)], args := [d] }
  | _ => none }
def GridCopiesWrongFalsely : Prop := gridCopiesRow.holds Try.pinned (OpenSpec.ofChange gridCopiesWrong)

/-- 'rheostatlaw11.GridRises': WHATEVER THE INPUT: true; the input reads as it did. -/
def gridRisesSpec : ChangeSpec := { name := "gridRises", fn := fun _ => fun
  | [d1, d2, d3, d4] => { results := [.lit (.bool true)], args := [d1, d2, d3, d4] }
  | _ => none }
def gridRisesRow : OpenClaim := { program := "ytkdhedjcpakfeaa", sum := "6af33f41fe97b46545c3ca6cc71855d932a3ec429fa1e0e7621314c80ca88e02", func := "rheostat/rheostatlaw11.GridRises", spec := "gridRises", inPlace := ["math/bits.Sub64"], unfollowed := true, recurses := true, named := ["math/bits.overflowError", "math/bits.divideError"], apart := false }
def GridRisesSaid : Prop := gridRisesRow.holds Try.pinned (OpenSpec.ofChange gridRisesSpec)

/-- ITS FALSE NEIGHBOUR: 'it returns false'. Refute it at one input. -/
def gridRisesWrong : ChangeSpec := { name := "gridRises", fn := fun _ => fun
  | [d1, d2, d3, d4] => { results := [.lit (.bool false)], args := [d1, d2, d3, d4] }
  | _ => none }
def GridRisesWrongFalsely : Prop := gridRisesRow.holds Try.pinned (OpenSpec.ofChange gridRisesWrong)

/-- 'rheostatlaw11.GridTells': WHATEVER THE INPUT: true; the input reads as it did. -/
def gridTellsSpec : ChangeSpec := { name := "gridTells", fn := fun _ => fun
  | [d1, d2, d3, d4] => { results := [.lit (.bool true)], args := [d1, d2, d3, d4] }
  | _ => none }
def gridTellsRow : OpenClaim := { program := "ytkdhedjcpakfeaa", sum := "6af33f41fe97b46545c3ca6cc71855d932a3ec429fa1e0e7621314c80ca88e02", func := "rheostat/rheostatlaw11.GridTells", spec := "gridTells", inPlace := ["math/bits.Sub64"], unfollowed := true, recurses := true, named := ["math/bits.overflowError", "math/bits.divideError"], apart := false }
def GridTellsSaid : Prop := gridTellsRow.holds Try.pinned (OpenSpec.ofChange gridTellsSpec)

/-- ITS FALSE NEIGHBOUR: 'it returns false'. Refute it at one input. -/
def gridTellsWrong : ChangeSpec := { name := "gridTells", fn := fun _ => fun
  | [d1, d2, d3, d4] => { results := [.lit (.bool false)], args := [d1, d2, d3, d4] }
  | _ => none }
def GridTellsWrongFalsely : Prop := gridTellsRow.holds Try.pinned (OpenSpec.ofChange gridTellsWrong)

/- THE SECOND FORM. 'bulk': how many values and letters a reading holds, each counted each time it is reached (what is shared counts as often as it is met; a slice's spare places count too). A statement '..UptoSaid' is the law's where the arguments, and the package variables that the reading takes, are together of bulk at most 1048576: NARROWER than '..Said'. Prove '..Said' where nothing that the law and all that it calls make is longer than what came in: it says more and counts as full. Else prove '..UptoSaid'. A law counts once. -/
mutual
def uptoBulk {H : Type} : DataW H → Nat
  | .lit (.string bytes) => bytes.length + 1
  | .lit _ => 1
  | .nil => 1
  | .ptr d => uptoBulk d + 1
  | .slice elems spare => uptoBulkAll elems + uptoBulkAll spare + 1
  | .agg parts => uptoBulkAll parts + 1
  | .iface _ d => uptoBulk d + 1
  | .map entries => uptoBulkEntries entries + 1
  | .held _ => 1
def uptoBulkAll {H : Type} : List (DataW H) → Nat
  | [] => 0
  | d :: r => uptoBulk d + uptoBulkAll r
def uptoBulkEntries {H : Type} : List (Lit × DataW H) → Nat
  | [] => 0
  | x :: r => uptoBulkEntry x + uptoBulkEntries r
def uptoBulkEntry {H : Type} : Lit × DataW H → Nat
  | (.string bytes, d) => bytes.length + uptoBulk d + 1
  | (_, d) => uptoBulk d + 1
 end
def uptoSmall : (H : Type) → List (DataW H) → Bool := fun _ ds => decide (uptoBulkAll ds ≤ 1048576)
def OpenSpec.upto (s : _root_.Go.ChangeSpec) : _root_.Go.OpenSpec := { _root_.Go.OpenSpec.ofChange s with cond := some uptoSmall }

/-- 'rheostatlaw11.GridCorners', WHERE WHAT IT READS IS OF BULK AT MOST 1048576: true; the input reads as it did. -/
def gridCornersUptoRow : OpenClaim := { program := "ytkdhedjcpakfeaa", sum := "6af33f41fe97b46545c3ca6cc71855d932a3ec429fa1e0e7621314c80ca88e02", func := "rheostat/rheostatlaw11.GridCorners", spec := "gridCorners", inPlace := ["math/bits.Sub64"], unfollowed := true, recurses := true, named := ["math/bits.overflowError", "math/bits.divideError"], apart := false, narrowed := true }
def GridCornersUptoSaid : Prop := gridCornersUptoRow.holds Try.pinned (OpenSpec.upto gridCornersSpec)

/-- 'rheostatlaw11.GridBounds', WHERE WHAT IT READS IS OF BULK AT MOST 1048576: true; the input reads as it did. -/
def gridBoundsUptoRow : OpenClaim := { program := "ytkdhedjcpakfeaa", sum := "6af33f41fe97b46545c3ca6cc71855d932a3ec429fa1e0e7621314c80ca88e02", func := "rheostat/rheostatlaw11.GridBounds", spec := "gridBounds", inPlace := ["math/bits.Sub64"], unfollowed := true, recurses := true, named := ["math/bits.overflowError", "math/bits.divideError"], apart := false, narrowed := true }
def GridBoundsUptoSaid : Prop := gridBoundsUptoRow.holds Try.pinned (OpenSpec.upto gridBoundsSpec)

/-- 'rheostatlaw11.GridOne', WHERE WHAT IT READS IS OF BULK AT MOST 1048576: true; the input reads as it did. -/
def gridOneUptoRow : OpenClaim := { program := "ytkdhedjcpakfeaa", sum := "6af33f41fe97b46545c3ca6cc71855d932a3ec429fa1e0e7621314c80ca88e02", func := "rheostat/rheostatlaw11.GridOne", spec := "gridOne", inPlace := ["math/bits.Sub64"], unfollowed := true, recurses := true, named := ["math/bits.overflowError", "math/bits.divideError"], apart := false, narrowed := true }
def GridOneUptoSaid : Prop := gridOneUptoRow.holds Try.pinned (OpenSpec.upto gridOneSpec)

/-- 'rheostatlaw11.GridCopies', WHERE WHAT IT READS IS OF BULK AT MOST 1048576: true; the input reads as it did. -/
def gridCopiesUptoRow : OpenClaim := { program := "ytkdhedjcpakfeaa", sum := "6af33f41fe97b46545c3ca6cc71855d932a3ec429fa1e0e7621314c80ca88e02", func := "rheostat/rheostatlaw11.GridCopies", spec := "gridCopies", inPlace := ["math/bits.Sub64"], unfollowed := true, recurses := true, named := ["math/bits.overflowError", "math/bits.divideError"], apart := false, narrowed := true }
def GridCopiesUptoSaid : Prop := gridCopiesUptoRow.holds Try.pinned (OpenSpec.upto gridCopiesSpec)

/-- 'rheostatlaw11.GridRises', WHERE WHAT IT READS IS OF BULK AT MOST 1048576: true; the input reads as it did. -/
def gridRisesUptoRow : OpenClaim := { program := "ytkdhedjcpakfeaa", sum := "6af33f41fe97b46545c3ca6cc71855d932a3ec429fa1e0e7621314c80ca88e02", func := "rheostat/rheostatlaw11.GridRises", spec := "gridRises", inPlace := ["math/bits.Sub64"], unfollowed := true, recurses := true, named := ["math/bits.overflowError", "math/bits.divideError"], apart := false, narrowed := true }
def GridRisesUptoSaid : Prop := gridRisesUptoRow.holds Try.pinned (OpenSpec.upto gridRisesSpec)

/-- 'rheostatlaw11.GridTells', WHERE WHAT IT READS IS OF BULK AT MOST 1048576: true; the input reads as it did. -/
def gridTellsUptoRow : OpenClaim := { program := "ytkdhedjcpakfeaa", sum := "6af33f41fe97b46545c3ca6cc71855d932a3ec429fa1e0e7621314c80ca88e02", func := "rheostat/rheostatlaw11.GridTells", spec := "gridTells", inPlace := ["math/bits.Sub64"], unfollowed := true, recurses := true, named := ["math/bits.overflowError", "math/bits.divideError"], apart := false, narrowed := true }
def GridTellsUptoSaid : Prop := gridTellsUptoRow.holds Try.pinned (OpenSpec.upto gridTellsSpec)

end Rows
end Go.Proofs.Ytkdhedjcpakfeaa
