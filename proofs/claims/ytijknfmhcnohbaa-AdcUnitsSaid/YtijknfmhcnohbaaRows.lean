/-
  No cell of these rows narrows 'for every input' (looked for: loops, veiled, ifaces, maps, wideKeys, modest, calm, conditions, laid).
  DERIVED. THE GIVEN ROWS OF THIS SEAT. 6 by the template 'for every input the law returns true; each argument reads behind the call as it read before'; 0 by the template 'total and deterministic' (their statements: YtijknfmhcnohbaaTotals.lean).
  GIVEN WITH THE SEED: the statements are not yours to turn. If you find one false, say at which input.
  Laid BY PROGRAM, IN A SANDBOX (cutbox-rows.mjs): the forced cells as the released guide's own fill.sh prints them over the translation 7397354c024c1c61… (all of the seat's roots in one cut). By AI agents, Wed Nov 11 2026. No macro, syntax, notation, axiom, sorry.
-/
import Derived.Test.YtijknfmhcnohbaaChecked
import GoSem.Claim
import GoSem.ClaimJoined
import GoSem.ClaimMapViews
import Derived.JoinedTies
import Derived.KernelRfl
namespace Go.Proofs.Ytijknfmhcnohbaa
/- THE CELL 'sum', in the pinned program and in every row, IS THE sha256 OF THE DUMP (.gsa) THAT YtijknfmhcnohbaaProg.lean LOADS. Nothing in Lean hashes anything: it is a label: what it is worth is what the hold of that sum in a sandbox is worth. -/
noncomputable def Try.pinned : Pinned := { name := "ytijknfmhcnohbaa", sum := "7397354c024c1c61ed30ff1431daa4ef4cd618bce885100384818129b796ee7b", checked := Try.checked }
namespace Rows
def none {H : Type} : Left H := { results := [], args := [] }

/-- 'rheostatlaw12.AdcMeans': WHATEVER THE INPUT: true; the input reads as it did. -/
def adcMeansSpec : ChangeSpec := { name := "adcMeans", fn := fun _ => fun
  | [d] => { results := [.lit (.bool true)], args := [d] }
  | _ => none }
def adcMeansRow : OpenClaim := { program := "ytijknfmhcnohbaa", sum := "7397354c024c1c61ed30ff1431daa4ef4cd618bce885100384818129b796ee7b", func := "rheostat/rheostatlaw12.AdcMeans", spec := "adcMeans", inPlace := ["math/bits.Sub64"], unfollowed := true, recurses := true, named := ["math/bits.overflowError", "math/bits.divideError"], apart := false }
def AdcMeansSaid : Prop := adcMeansRow.holds Try.pinned (OpenSpec.ofChange adcMeansSpec)

/-- ITS FALSE NEIGHBOUR: 'it returns false'. Refute it at one input. -/
def adcMeansWrong : ChangeSpec := { name := "adcMeans", fn := fun _ => fun
  | [d] => { results := [.lit (.bool false)], args := [d] }
  | _ => none }
def AdcMeansWrongFalsely : Prop := adcMeansRow.holds Try.pinned (OpenSpec.ofChange adcMeansWrong)

/-- 'rheostatlaw12.AdcRises': WHATEVER THE INPUT: true; the input reads as it did. -/
def adcRisesSpec : ChangeSpec := { name := "adcRises", fn := fun _ => fun
  | [d1, d2, d3] => { results := [.lit (.bool true)], args := [d1, d2, d3] }
  | _ => none }
def adcRisesRow : OpenClaim := { program := "ytijknfmhcnohbaa", sum := "7397354c024c1c61ed30ff1431daa4ef4cd618bce885100384818129b796ee7b", func := "rheostat/rheostatlaw12.AdcRises", spec := "adcRises", inPlace := ["math/bits.Sub64"], unfollowed := true, recurses := true, named := ["math/bits.overflowError", "math/bits.divideError"], apart := false }
def AdcRisesSaid : Prop := adcRisesRow.holds Try.pinned (OpenSpec.ofChange adcRisesSpec)

/-- ITS FALSE NEIGHBOUR: 'it returns false'. Refute it at one input. -/
def adcRisesWrong : ChangeSpec := { name := "adcRises", fn := fun _ => fun
  | [d1, d2, d3] => { results := [.lit (.bool false)], args := [d1, d2, d3] }
  | _ => none }
def AdcRisesWrongFalsely : Prop := adcRisesRow.holds Try.pinned (OpenSpec.ofChange adcRisesWrong)

/-- 'rheostatlaw12.AdcUnits': WHATEVER THE INPUT: true; the input reads as it did. -/
def adcUnitsSpec : ChangeSpec := { name := "adcUnits", fn := fun _ => fun
  | [d1, d2] => { results := [.lit (.bool true)], args := [d1, d2] }
  | _ => none }
def adcUnitsRow : OpenClaim := { program := "ytijknfmhcnohbaa", sum := "7397354c024c1c61ed30ff1431daa4ef4cd618bce885100384818129b796ee7b", func := "rheostat/rheostatlaw12.AdcUnits", spec := "adcUnits", inPlace := ["math/bits.Sub64"], unfollowed := true, recurses := true, named := ["math/bits.overflowError", "math/bits.divideError"], apart := false }
def AdcUnitsSaid : Prop := adcUnitsRow.holds Try.pinned (OpenSpec.ofChange adcUnitsSpec)

/-- ITS FALSE NEIGHBOUR: 'it returns false'. Refute it at one input. -/
def adcUnitsWrong : ChangeSpec := { name := "adcUnits", fn := fun _ => fun
  | [d1, d2] => { results := [.lit (.bool false)], args := [d1, d2] }
  | _ => none }
def AdcUnitsWrongFalsely : Prop := adcUnitsRow.holds Try.pinned (OpenSpec.ofChange adcUnitsWrong)

/-- 'rheostatlaw12.AdcBounds': WHATEVER THE INPUT: true; the input reads as it did. -/
def adcBoundsSpec : ChangeSpec := { name := "adcBounds", fn := fun _ => fun
  | [d1, d2] => { results := [.lit (.bool true)], args := [d1, d2] }
  | _ => none }
def adcBoundsRow : OpenClaim := { program := "ytijknfmhcnohbaa", sum := "7397354c024c1c61ed30ff1431daa4ef4cd618bce885100384818129b796ee7b", func := "rheostat/rheostatlaw12.AdcBounds", spec := "adcBounds", inPlace := ["math/bits.Sub64"], unfollowed := true, recurses := true, named := ["math/bits.overflowError", "math/bits.divideError"], apart := false }
def AdcBoundsSaid : Prop := adcBoundsRow.holds Try.pinned (OpenSpec.ofChange adcBoundsSpec)

/-- ITS FALSE NEIGHBOUR: 'it returns false'. Refute it at one input. -/
def adcBoundsWrong : ChangeSpec := { name := "adcBounds", fn := fun _ => fun
  | [d1, d2] => { results := [.lit (.bool false)], args := [d1, d2] }
  | _ => none }
def AdcBoundsWrongFalsely : Prop := adcBoundsRow.holds Try.pinned (OpenSpec.ofChange adcBoundsWrong)

/-- 'rheostatlaw12.AdcFinds': WHATEVER THE INPUT: true; the input reads as it did. -/
def adcFindsSpec : ChangeSpec := { name := "adcFinds", fn := fun _ => fun
  | [d1, d2, d3, d4] => { results := [.lit (.bool true)], args := [d1, d2, d3, d4] }
  | _ => none }
def adcFindsRow : OpenClaim := { program := "ytijknfmhcnohbaa", sum := "7397354c024c1c61ed30ff1431daa4ef4cd618bce885100384818129b796ee7b", func := "rheostat/rheostatlaw12.AdcFinds", spec := "adcFinds", inPlace := ["math/bits.Sub64"], unfollowed := true, recurses := true, named := ["math/bits.overflowError", "math/bits.divideError"], apart := false }
def AdcFindsSaid : Prop := adcFindsRow.holds Try.pinned (OpenSpec.ofChange adcFindsSpec)

/-- ITS FALSE NEIGHBOUR: 'it returns false'. Refute it at one input. -/
def adcFindsWrong : ChangeSpec := { name := "adcFinds", fn := fun _ => fun
  | [d1, d2, d3, d4] => { results := [.lit (.bool false)], args := [d1, d2, d3, d4] }
  | _ => none }
def AdcFindsWrongFalsely : Prop := adcFindsRow.holds Try.pinned (OpenSpec.ofChange adcFindsWrong)

/-- 'rheostatlaw12.AdcFound': WHATEVER THE INPUT: true; the input reads as it did. -/
def adcFoundSpec : ChangeSpec := { name := "adcFound", fn := fun _ => fun
  | [d1, d2, d3, d4] => { results := [.lit (.bool true)], args := [d1, d2, d3, d4] }
  | _ => none }
def adcFoundRow : OpenClaim := { program := "ytijknfmhcnohbaa", sum := "7397354c024c1c61ed30ff1431daa4ef4cd618bce885100384818129b796ee7b", func := "rheostat/rheostatlaw12.AdcFound", spec := "adcFound", inPlace := ["math/bits.Sub64"], unfollowed := true, recurses := true, named := ["math/bits.overflowError", "math/bits.divideError"], apart := false }
def AdcFoundSaid : Prop := adcFoundRow.holds Try.pinned (OpenSpec.ofChange adcFoundSpec)

/-- ITS FALSE NEIGHBOUR: 'it returns false'. Refute it at one input. -/
def adcFoundWrong : ChangeSpec := { name := "adcFound", fn := fun _ => fun
  | [d1, d2, d3, d4] => { results := [.lit (.bool false)], args := [d1, d2, d3, d4] }
  | _ => none }
def AdcFoundWrongFalsely : Prop := adcFoundRow.holds Try.pinned (OpenSpec.ofChange adcFoundWrong)

/- THE SECOND FORM. 'bulk': how many values and letters a reading holds, each counted each time it is reached (what is shared counts as often as it is met; a slice's spare places count too). A statement '..UptoSaid' is the law's where the arguments, and the package variables that the reading takes, are together of bulk at most 1048576: NARROWER than '..Said'. Prove '..Said' where nothing that the law and all that it calls make is longer than what came in: it says more and counts as full. Else prove '..UptoSaid'. A law counts once. -/
mutual
def uptoBulk {H : Type} : DataW H → Nat
  | .lit (.string bytes) => bytes.length + 1
  | .lit _ => 1
  | .nil => 1
  | .ptr d => uptoBulk d + 1
  | .slice elems spare => uptoBulkAll elems + uptoBulkAll spare + 1
  | .agg parts => uptoBulkAll parts + 1
  | .iface _ d => uptoBulk d + 1
  | .map entries => uptoBulkEntries entries + 1
  | .held _ => 1
def uptoBulkAll {H : Type} : List (DataW H) → Nat
  | [] => 0
  | d :: r => uptoBulk d + uptoBulkAll r
def uptoBulkEntries {H : Type} : List (Lit × DataW H) → Nat
  | [] => 0
  | x :: r => uptoBulkEntry x + uptoBulkEntries r
def uptoBulkEntry {H : Type} : Lit × DataW H → Nat
  | (.string bytes, d) => bytes.length + uptoBulk d + 1
  | (_, d) => uptoBulk d + 1
 end
def uptoSmall : (H : Type) → List (DataW H) → Bool := fun _ ds => decide (uptoBulkAll ds ≤ 1048576)
def OpenSpec.upto (s : _root_.Go.ChangeSpec) : _root_.Go.OpenSpec := { _root_.Go.OpenSpec.ofChange s with cond := some uptoSmall }

/-- 'rheostatlaw12.AdcMeans', WHERE WHAT IT READS IS OF BULK AT MOST 1048576: true; the input reads as it did. -/
def adcMeansUptoRow : OpenClaim := { program := "ytijknfmhcnohbaa", sum := "7397354c024c1c61ed30ff1431daa4ef4cd618bce885100384818129b796ee7b", func := "rheostat/rheostatlaw12.AdcMeans", spec := "adcMeans", inPlace := ["math/bits.Sub64"], unfollowed := true, recurses := true, named := ["math/bits.overflowError", "math/bits.divideError"], apart := false, narrowed := true }
def AdcMeansUptoSaid : Prop := adcMeansUptoRow.holds Try.pinned (OpenSpec.upto adcMeansSpec)

/-- 'rheostatlaw12.AdcRises', WHERE WHAT IT READS IS OF BULK AT MOST 1048576: true; the input reads as it did. -/
def adcRisesUptoRow : OpenClaim := { program := "ytijknfmhcnohbaa", sum := "7397354c024c1c61ed30ff1431daa4ef4cd618bce885100384818129b796ee7b", func := "rheostat/rheostatlaw12.AdcRises", spec := "adcRises", inPlace := ["math/bits.Sub64"], unfollowed := true, recurses := true, named := ["math/bits.overflowError", "math/bits.divideError"], apart := false, narrowed := true }
def AdcRisesUptoSaid : Prop := adcRisesUptoRow.holds Try.pinned (OpenSpec.upto adcRisesSpec)

/-- 'rheostatlaw12.AdcUnits', WHERE WHAT IT READS IS OF BULK AT MOST 1048576: true; the input reads as it did. -/
def adcUnitsUptoRow : OpenClaim := { program := "ytijknfmhcnohbaa", sum := "7397354c024c1c61ed30ff1431daa4ef4cd618bce885100384818129b796ee7b", func := "rheostat/rheostatlaw12.AdcUnits", spec := "adcUnits", inPlace := ["math/bits.Sub64"], unfollowed := true, recurses := true, named := ["math/bits.overflowError", "math/bits.divideError"], apart := false, narrowed := true }
def AdcUnitsUptoSaid : Prop := adcUnitsUptoRow.holds Try.pinned (OpenSpec.upto adcUnitsSpec)

/-- 'rheostatlaw12.AdcBounds', WHERE WHAT IT READS IS OF BULK AT MOST 1048576: true; the input reads as it did. -/
def adcBoundsUptoRow : OpenClaim := { program := "ytijknfmhcnohbaa", sum := "7397354c024c1c61ed30ff1431daa4ef4cd618bce885100384818129b796ee7b", func := "rheostat/rheostatlaw12.AdcBounds", spec := "adcBounds", inPlace := ["math/bits.Sub64"], unfollowed := true, recurses := true, named := ["math/bits.overflowError", "math/bits.divideError"], apart := false, narrowed := true }
def AdcBoundsUptoSaid : Prop := adcBoundsUptoRow.holds Try.pinned (OpenSpec.upto adcBoundsSpec)

/-- 'rheostatlaw12.AdcFinds', WHERE WHAT IT READS IS OF BULK AT MOST 1048576: true; the input reads as it did. -/
def adcFindsUptoRow : OpenClaim := { program := "ytijknfmhcnohbaa", sum := "7397354c024c1c61ed30ff1431daa4ef4cd618bce885100384818129b796ee7b", func := "rheostat/rheostatlaw12.AdcFinds", spec := "adcFinds", inPlace := ["math/bits.Sub64"], unfollowed := true, recurses := true, named := ["math/bits.overflowError", "math/bits.divideError"], apart := false, narrowed := true }
def AdcFindsUptoSaid : Prop := adcFindsUptoRow.holds Try.pinned (OpenSpec.upto adcFindsSpec)

/-- 'rheostatlaw12.AdcFound', WHERE WHAT IT READS IS OF BULK AT MOST 1048576: true; the input reads as it did. -/
def adcFoundUptoRow : OpenClaim := { program := "ytijknfmhcnohbaa", sum := "7397354c024c1c61ed30ff1431daa4ef4cd618bce885100384818129b796ee7b", func := "rheostat/rheostatlaw12.AdcFound", spec := "adcFound", inPlace := ["math/bits.Sub64"], unfollowed := true, recurses := true, named := ["math/bits.overflowError", "math/bits.divideError"], apart := false, narrowed := true }
def AdcFoundUptoSaid : Prop := adcFoundUptoRow.holds Try.pinned (OpenSpec.upto adcFoundSpec)

end Rows
end Go.Proofs.Ytijknfmhcnohbaa
