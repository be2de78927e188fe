/-
  No cell of these rows narrows 'for every input' (looked for: loops, veiled, ifaces, maps, wideKeys, modest, calm, conditions, laid).
  DERIVED. THE GIVEN ROWS OF THIS SEAT. 6 by the template 'for every input the law returns true; each argument reads behind the call as it read before'; 0 by the template 'total and deterministic' (their statements: YthjjjifpiibmeaaTotals.lean).
  GIVEN WITH THE SEED: the statements are not yours to turn. If you find one false, say at which input.
  Laid BY PROGRAM, IN A SANDBOX (cutbox-rows.mjs): the forced cells as the released guide's own fill.sh prints them over the translation 2c7681b6ce793c50… (all of the seat's roots in one cut). By AI agents, Wed Nov 11 2026. No macro, syntax, notation, axiom, sorry.
-/
import Derived.Test.YthjjjifpiibmeaaChecked
import GoSem.Claim
import GoSem.ClaimJoined
import GoSem.ClaimMapViews
import Derived.JoinedTies
import Derived.KernelRfl
namespace Go.Proofs.Ythjjjifpiibmeaa
/- THE CELL 'sum', in the pinned program and in every row, IS THE sha256 OF THE DUMP (.gsa) THAT YthjjjifpiibmeaaProg.lean LOADS. Nothing in Lean hashes anything: it is a label: what it is worth is what the hold of that sum in a sandbox is worth. -/
noncomputable def Try.pinned : Pinned := { name := "ythjjjifpiibmeaa", sum := "2c7681b6ce793c504927485ceded6197a354b08e6663c3723327229e9efd57ca", checked := Try.checked }
namespace Rows
def none {H : Type} : Left H := { results := [], args := [] }

/-- 'rheostatlaw20.GuardOnes': WHATEVER THE INPUT: true; the input reads as it did. -/
def guardOnesSpec : ChangeSpec := { name := "guardOnes", fn := fun _ => fun
  | [d1, d2, d3, d4, d5] => { results := [.lit (.bool true)], args := [d1, d2, d3, d4, d5] }
  | _ => none }
def guardOnesRow : OpenClaim := { program := "ythjjjifpiibmeaa", sum := "2c7681b6ce793c504927485ceded6197a354b08e6663c3723327229e9efd57ca", func := "rheostat/rheostatlaw20.GuardOnes", spec := "guardOnes", apart := false }
def GuardOnesSaid : Prop := guardOnesRow.holds Try.pinned (OpenSpec.ofChange guardOnesSpec)

/-- ITS FALSE NEIGHBOUR: 'it returns false'. Refute it at one input. -/
def guardOnesWrong : ChangeSpec := { name := "guardOnes", fn := fun _ => fun
  | [d1, d2, d3, d4, d5] => { results := [.lit (.bool false)], args := [d1, d2, d3, d4, d5] }
  | _ => none }
def GuardOnesWrongFalsely : Prop := guardOnesRow.holds Try.pinned (OpenSpec.ofChange guardOnesWrong)

/-- 'rheostatlaw20.GuardTimes': WHATEVER THE INPUT: true; the input reads as it did. -/
def guardTimesSpec : ChangeSpec := { name := "guardTimes", fn := fun _ => fun
  | [d1, d2, d3] => { results := [.lit (.bool true)], args := [d1, d2, d3] }
  | _ => none }
def guardTimesRow : OpenClaim := { program := "ythjjjifpiibmeaa", sum := "2c7681b6ce793c504927485ceded6197a354b08e6663c3723327229e9efd57ca", func := "rheostat/rheostatlaw20.GuardTimes", spec := "guardTimes", apart := false }
def GuardTimesSaid : Prop := guardTimesRow.holds Try.pinned (OpenSpec.ofChange guardTimesSpec)

/-- ITS FALSE NEIGHBOUR: 'it returns false'. Refute it at one input. -/
def guardTimesWrong : ChangeSpec := { name := "guardTimes", fn := fun _ => fun
  | [d1, d2, d3] => { results := [.lit (.bool false)], args := [d1, d2, d3] }
  | _ => none }
def GuardTimesWrongFalsely : Prop := guardTimesRow.holds Try.pinned (OpenSpec.ofChange guardTimesWrong)

/-- 'rheostatlaw20.GuardApart': WHATEVER THE INPUT: true; the input reads as it did. -/
def guardApartSpec : ChangeSpec := { name := "guardApart", fn := fun _ => fun
  | [d1, d2] => { results := [.lit (.bool true)], args := [d1, d2] }
  | _ => none }
def guardApartRow : OpenClaim := { program := "ythjjjifpiibmeaa", sum := "2c7681b6ce793c504927485ceded6197a354b08e6663c3723327229e9efd57ca", func := "rheostat/rheostatlaw20.GuardApart", spec := "guardApart", apart := false }
def GuardApartSaid : Prop := guardApartRow.holds Try.pinned (OpenSpec.ofChange guardApartSpec)

/-- ITS FALSE NEIGHBOUR: 'it returns false'. Refute it at one input. -/
def guardApartWrong : ChangeSpec := { name := "guardApart", fn := fun _ => fun
  | [d1, d2] => { results := [.lit (.bool false)], args := [d1, d2] }
  | _ => none }
def GuardApartWrongFalsely : Prop := guardApartRow.holds Try.pinned (OpenSpec.ofChange guardApartWrong)

/-- 'rheostatlaw20.GuardOften': WHATEVER THE INPUT: true; the input reads as it did. -/
def guardOftenSpec : ChangeSpec := { name := "guardOften", fn := fun _ => fun
  | [d1, d2] => { results := [.lit (.bool true)], args := [d1, d2] }
  | _ => none }
def guardOftenRow : OpenClaim := { program := "ythjjjifpiibmeaa", sum := "2c7681b6ce793c504927485ceded6197a354b08e6663c3723327229e9efd57ca", func := "rheostat/rheostatlaw20.GuardOften", spec := "guardOften", apart := false }
def GuardOftenSaid : Prop := guardOftenRow.holds Try.pinned (OpenSpec.ofChange guardOftenSpec)

/-- ITS FALSE NEIGHBOUR: 'it returns false'. Refute it at one input. -/
def guardOftenWrong : ChangeSpec := { name := "guardOften", fn := fun _ => fun
  | [d1, d2] => { results := [.lit (.bool false)], args := [d1, d2] }
  | _ => none }
def GuardOftenWrongFalsely : Prop := guardOftenRow.holds Try.pinned (OpenSpec.ofChange guardOftenWrong)

/-- 'rheostatlaw20.GuardSteps': WHATEVER THE INPUT: true; the input reads as it did. -/
def guardStepsSpec : ChangeSpec := { name := "guardSteps", fn := fun _ => fun
  | [d1, d2] => { results := [.lit (.bool true)], args := [d1, d2] }
  | _ => none }
def guardStepsRow : OpenClaim := { program := "ythjjjifpiibmeaa", sum := "2c7681b6ce793c504927485ceded6197a354b08e6663c3723327229e9efd57ca", func := "rheostat/rheostatlaw20.GuardSteps", spec := "guardSteps", apart := false }
def GuardStepsSaid : Prop := guardStepsRow.holds Try.pinned (OpenSpec.ofChange guardStepsSpec)

/-- ITS FALSE NEIGHBOUR: 'it returns false'. Refute it at one input. -/
def guardStepsWrong : ChangeSpec := { name := "guardSteps", fn := fun _ => fun
  | [d1, d2] => { results := [.lit (.bool false)], args := [d1, d2] }
  | _ => none }
def GuardStepsWrongFalsely : Prop := guardStepsRow.holds Try.pinned (OpenSpec.ofChange guardStepsWrong)

/-- 'rheostatlaw20.GuardAlone': WHATEVER THE INPUT: true; the input reads as it did. -/
def guardAloneSpec : ChangeSpec := { name := "guardAlone", fn := fun _ => fun
  | [d1, d2] => { results := [.lit (.bool true)], args := [d1, d2] }
  | _ => none }
def guardAloneRow : OpenClaim := { program := "ythjjjifpiibmeaa", sum := "2c7681b6ce793c504927485ceded6197a354b08e6663c3723327229e9efd57ca", func := "rheostat/rheostatlaw20.GuardAlone", spec := "guardAlone", apart := false }
def GuardAloneSaid : Prop := guardAloneRow.holds Try.pinned (OpenSpec.ofChange guardAloneSpec)

/-- ITS FALSE NEIGHBOUR: 'it returns false'. Refute it at one input. -/
def guardAloneWrong : ChangeSpec := { name := "guardAlone", fn := fun _ => fun
  | [d1, d2] => { results := [.lit (.bool false)], args := [d1, d2] }
  | _ => none }
def GuardAloneWrongFalsely : Prop := guardAloneRow.holds Try.pinned (OpenSpec.ofChange guardAloneWrong)

/- THE SECOND FORM. 'bulk': how many values and letters a reading holds, each counted each time it is reached (what is shared counts as often as it is met; a slice's spare places count too). A statement '..UptoSaid' is the law's where the arguments, and the package variables that the reading takes, are together of bulk at most 1048576: NARROWER than '..Said'. Prove '..Said' where nothing that the law and all that it calls make is longer than what came in: it says more and counts as full. Else prove '..UptoSaid'. A law counts once. -/
mutual
def uptoBulk {H : Type} : DataW H → Nat
  | .lit (.string bytes) => bytes.length + 1
  | .lit _ => 1
  | .nil => 1
  | .ptr d => uptoBulk d + 1
  | .slice elems spare => uptoBulkAll elems + uptoBulkAll spare + 1
  | .agg parts => uptoBulkAll parts + 1
  | .iface _ d => uptoBulk d + 1
  | .map entries => uptoBulkEntries entries + 1
  | .held _ => 1
def uptoBulkAll {H : Type} : List (DataW H) → Nat
  | [] => 0
  | d :: r => uptoBulk d + uptoBulkAll r
def uptoBulkEntries {H : Type} : List (Lit × DataW H) → Nat
  | [] => 0
  | x :: r => uptoBulkEntry x + uptoBulkEntries r
def uptoBulkEntry {H : Type} : Lit × DataW H → Nat
  | (.string bytes, d) => bytes.length + uptoBulk d + 1
  | (_, d) => uptoBulk d + 1
 end
def uptoSmall : (H : Type) → List (DataW H) → Bool := fun _ ds => decide (uptoBulkAll ds ≤ 1048576)
def OpenSpec.upto (s : _root_.Go.ChangeSpec) : _root_.Go.OpenSpec := { _root_.Go.OpenSpec.ofChange s with cond := some uptoSmall }

/-- 'rheostatlaw20.GuardOnes', WHERE WHAT IT READS IS OF BULK AT MOST 1048576: true; the input reads as it did. -/
def guardOnesUptoRow : OpenClaim := { program := "ythjjjifpiibmeaa", sum := "2c7681b6ce793c504927485ceded6197a354b08e6663c3723327229e9efd57ca", func := "rheostat/rheostatlaw20.GuardOnes", spec := "guardOnes", apart := false, narrowed := true }
def GuardOnesUptoSaid : Prop := guardOnesUptoRow.holds Try.pinned (OpenSpec.upto guardOnesSpec)

/-- 'rheostatlaw20.GuardTimes', WHERE WHAT IT READS IS OF BULK AT MOST 1048576: true; the input reads as it did. -/
def guardTimesUptoRow : OpenClaim := { program := "ythjjjifpiibmeaa", sum := "2c7681b6ce793c504927485ceded6197a354b08e6663c3723327229e9efd57ca", func := "rheostat/rheostatlaw20.GuardTimes", spec := "guardTimes", apart := false, narrowed := true }
def GuardTimesUptoSaid : Prop := guardTimesUptoRow.holds Try.pinned (OpenSpec.upto guardTimesSpec)

/-- 'rheostatlaw20.GuardApart', WHERE WHAT IT READS IS OF BULK AT MOST 1048576: true; the input reads as it did. -/
def guardApartUptoRow : OpenClaim := { program := "ythjjjifpiibmeaa", sum := "2c7681b6ce793c504927485ceded6197a354b08e6663c3723327229e9efd57ca", func := "rheostat/rheostatlaw20.GuardApart", spec := "guardApart", apart := false, narrowed := true }
def GuardApartUptoSaid : Prop := guardApartUptoRow.holds Try.pinned (OpenSpec.upto guardApartSpec)

/-- 'rheostatlaw20.GuardOften', WHERE WHAT IT READS IS OF BULK AT MOST 1048576: true; the input reads as it did. -/
def guardOftenUptoRow : OpenClaim := { program := "ythjjjifpiibmeaa", sum := "2c7681b6ce793c504927485ceded6197a354b08e6663c3723327229e9efd57ca", func := "rheostat/rheostatlaw20.GuardOften", spec := "guardOften", apart := false, narrowed := true }
def GuardOftenUptoSaid : Prop := guardOftenUptoRow.holds Try.pinned (OpenSpec.upto guardOftenSpec)

/-- 'rheostatlaw20.GuardSteps', WHERE WHAT IT READS IS OF BULK AT MOST 1048576: true; the input reads as it did. -/
def guardStepsUptoRow : OpenClaim := { program := "ythjjjifpiibmeaa", sum := "2c7681b6ce793c504927485ceded6197a354b08e6663c3723327229e9efd57ca", func := "rheostat/rheostatlaw20.GuardSteps", spec := "guardSteps", apart := false, narrowed := true }
def GuardStepsUptoSaid : Prop := guardStepsUptoRow.holds Try.pinned (OpenSpec.upto guardStepsSpec)

/-- 'rheostatlaw20.GuardAlone', WHERE WHAT IT READS IS OF BULK AT MOST 1048576: true; the input reads as it did. -/
def guardAloneUptoRow : OpenClaim := { program := "ythjjjifpiibmeaa", sum := "2c7681b6ce793c504927485ceded6197a354b08e6663c3723327229e9efd57ca", func := "rheostat/rheostatlaw20.GuardAlone", spec := "guardAlone", apart := false, narrowed := true }
def GuardAloneUptoSaid : Prop := guardAloneUptoRow.holds Try.pinned (OpenSpec.upto guardAloneSpec)

end Rows
end Go.Proofs.Ythjjjifpiibmeaa
