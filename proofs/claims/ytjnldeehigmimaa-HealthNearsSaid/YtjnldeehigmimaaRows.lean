/-
  No cell of these rows narrows 'for every input' (looked for: loops, veiled, ifaces, maps, wideKeys, modest, calm, conditions, laid).
  DERIVED. THE GIVEN ROWS OF THIS SEAT. 4 by the template 'for every input the law returns true; each argument reads behind the call as it read before'; 0 by the template 'total and deterministic' (their statements: YtjnldeehigmimaaTotals.lean).
  GIVEN WITH THE SEED: the statements are not yours to turn. If you find one false, say at which input.
  Laid BY PROGRAM, IN A SANDBOX (cutbox-rows.mjs): the forced cells as the released guide's own fill.sh prints them over the translation f6e0f890eb0d2b91… (all of the seat's roots in one cut). By AI agents, Wed Nov 11 2026. No macro, syntax, notation, axiom, sorry.
-/
import Derived.Test.YtjnldeehigmimaaChecked
import GoSem.Claim
import GoSem.ClaimJoined
import GoSem.ClaimMapViews
import Derived.JoinedTies
import Derived.KernelRfl
namespace Go.Proofs.Ytjnldeehigmimaa
/- THE CELL 'sum', in the pinned program and in every row, IS THE sha256 OF THE DUMP (.gsa) THAT YtjnldeehigmimaaProg.lean LOADS. Nothing in Lean hashes anything: it is a label: what it is worth is what the hold of that sum in a sandbox is worth. -/
noncomputable def Try.pinned : Pinned := { name := "ytjnldeehigmimaa", sum := "f6e0f890eb0d2b917f810dae6961686391f2eaaba6c78b43536a8174eba048eb", checked := Try.checked }
namespace Rows
def none {H : Type} : Left H := { results := [], args := [] }

/-- 'rheostatlaw18.HealthBounds': WHATEVER THE INPUT: true; the input reads as it did. -/
def healthBoundsSpec : ChangeSpec := { name := "healthBounds", fn := fun _ => fun
  | [d1, d2] => { results := [.lit (.bool true)], args := [d1, d2] }
  | _ => none }
def healthBoundsRow : OpenClaim := { program := "ytjnldeehigmimaa", sum := "f6e0f890eb0d2b917f810dae6961686391f2eaaba6c78b43536a8174eba048eb", func := "rheostat/rheostatlaw18.HealthBounds", spec := "healthBounds", inPlace := ["math/bits.Sub64"], unfollowed := true, recurses := true, named := ["math/bits.overflowError", "math/bits.divideError"], apart := false }
def HealthBoundsSaid : Prop := healthBoundsRow.holds Try.pinned (OpenSpec.ofChange healthBoundsSpec)

/-- ITS FALSE NEIGHBOUR: 'it returns false'. Refute it at one input. -/
def healthBoundsWrong : ChangeSpec := { name := "healthBounds", fn := fun _ => fun
  | [d1, d2] => { results := [.lit (.bool false)], args := [d1, d2] }
  | _ => none }
def HealthBoundsWrongFalsely : Prop := healthBoundsRow.holds Try.pinned (OpenSpec.ofChange healthBoundsWrong)

/-- 'rheostatlaw18.HealthKeeps': WHATEVER THE INPUT: true; the input reads as it did. -/
def healthKeepsSpec : ChangeSpec := { name := "healthKeeps", fn := fun _ => fun
  | [d1, d2] => { results := [.lit (.bool true)], args := [d1, d2] }
  | _ => none }
def healthKeepsRow : OpenClaim := { program := "ytjnldeehigmimaa", sum := "f6e0f890eb0d2b917f810dae6961686391f2eaaba6c78b43536a8174eba048eb", func := "rheostat/rheostatlaw18.HealthKeeps", spec := "healthKeeps", inPlace := ["math/bits.Sub64"], unfollowed := true, recurses := true, named := ["math/bits.overflowError", "math/bits.divideError"], apart := false }
def HealthKeepsSaid : Prop := healthKeepsRow.holds Try.pinned (OpenSpec.ofChange healthKeepsSpec)

/-- ITS FALSE NEIGHBOUR: 'it returns false'. Refute it at one input. -/
def healthKeepsWrong : ChangeSpec := { name := "healthKeeps", fn := fun _ => fun
  | [d1, d2] => { results := [.lit (.bool false)], args := [d1, d2] }
  | _ => none }
def HealthKeepsWrongFalsely : Prop := healthKeepsRow.holds Try.pinned (OpenSpec.ofChange healthKeepsWrong)

/-- 'rheostatlaw18.HealthLearns': WHATEVER THE INPUT: true; the input reads as it did. -/
def healthLearnsSpec : ChangeSpec := { name := "healthLearns", fn := fun _ => fun
  | [d1, d2, d3] => { results := [.lit (.bool true)], args := [d1, d2, d3] }
  | _ => none }
def healthLearnsRow : OpenClaim := { program := "ytjnldeehigmimaa", sum := "f6e0f890eb0d2b917f810dae6961686391f2eaaba6c78b43536a8174eba048eb", func := "rheostat/rheostatlaw18.HealthLearns", spec := "healthLearns", inPlace := ["math/bits.Sub64"], unfollowed := true, recurses := true, named := ["math/bits.overflowError", "math/bits.divideError"], apart := false }
def HealthLearnsSaid : Prop := healthLearnsRow.holds Try.pinned (OpenSpec.ofChange healthLearnsSpec)

/-- ITS FALSE NEIGHBOUR: 'it returns false'. Refute it at one input. -/
def healthLearnsWrong : ChangeSpec := { name := "healthLearns", fn := fun _ => fun
  | [d1, d2, d3] => { results := [.lit (.bool false)], args := [d1, d2, d3] }
  | _ => none }
def HealthLearnsWrongFalsely : Prop := healthLearnsRow.holds Try.pinned (OpenSpec.ofChange healthLearnsWrong)

/-- 'rheostatlaw18.HealthNears': WHATEVER THE INPUT: true; the input reads as it did. -/
def healthNearsSpec : ChangeSpec := { name := "healthNears", fn := fun _ => fun
  | [d1, d2, d3] => { results := [.lit (.bool true)], args := [d1, d2, d3] }
  | _ => none }
def healthNearsRow : OpenClaim := { program := "ytjnldeehigmimaa", sum := "f6e0f890eb0d2b917f810dae6961686391f2eaaba6c78b43536a8174eba048eb", func := "rheostat/rheostatlaw18.HealthNears", spec := "healthNears", inPlace := ["math/bits.Sub64"], unfollowed := true, recurses := true, named := ["math/bits.overflowError", "math/bits.divideError"], apart := false }
def HealthNearsSaid : Prop := healthNearsRow.holds Try.pinned (OpenSpec.ofChange healthNearsSpec)

/-- ITS FALSE NEIGHBOUR: 'it returns false'. Refute it at one input. -/
def healthNearsWrong : ChangeSpec := { name := "healthNears", fn := fun _ => fun
  | [d1, d2, d3] => { results := [.lit (.bool false)], args := [d1, d2, d3] }
  | _ => none }
def HealthNearsWrongFalsely : Prop := healthNearsRow.holds Try.pinned (OpenSpec.ofChange healthNearsWrong)

/- THE SECOND FORM. 'bulk': how many values and letters a reading holds, each counted each time it is reached (what is shared counts as often as it is met; a slice's spare places count too). A statement '..UptoSaid' is the law's where the arguments, and the package variables that the reading takes, are together of bulk at most 1048576: NARROWER than '..Said'. Prove '..Said' where nothing that the law and all that it calls make is longer than what came in: it says more and counts as full. Else prove '..UptoSaid'. A law counts once. -/
mutual
def uptoBulk {H : Type} : DataW H → Nat
  | .lit (.string bytes) => bytes.length + 1
  | .lit _ => 1
  | .nil => 1
  | .ptr d => uptoBulk d + 1
  | .slice elems spare => uptoBulkAll elems + uptoBulkAll spare + 1
  | .agg parts => uptoBulkAll parts + 1
  | .iface _ d => uptoBulk d + 1
  | .map entries => uptoBulkEntries entries + 1
  | .held _ => 1
def uptoBulkAll {H : Type} : List (DataW H) → Nat
  | [] => 0
  | d :: r => uptoBulk d + uptoBulkAll r
def uptoBulkEntries {H : Type} : List (Lit × DataW H) → Nat
  | [] => 0
  | x :: r => uptoBulkEntry x + uptoBulkEntries r
def uptoBulkEntry {H : Type} : Lit × DataW H → Nat
  | (.string bytes, d) => bytes.length + uptoBulk d + 1
  | (_, d) => uptoBulk d + 1
 end
def uptoSmall : (H : Type) → List (DataW H) → Bool := fun _ ds => decide (uptoBulkAll ds ≤ 1048576)
def OpenSpec.upto (s : _root_.Go.ChangeSpec) : _root_.Go.OpenSpec := { _root_.Go.OpenSpec.ofChange s with cond := some uptoSmall }

/-- 'rheostatlaw18.HealthBounds', WHERE WHAT IT READS IS OF BULK AT MOST 1048576: true; the input reads as it did. -/
def healthBoundsUptoRow : OpenClaim := { program := "ytjnldeehigmimaa", sum := "f6e0f890eb0d2b917f810dae6961686391f2eaaba6c78b43536a8174eba048eb", func := "rheostat/rheostatlaw18.HealthBounds", spec := "healthBounds", inPlace := ["math/bits.Sub64"], unfollowed := true, recurses := true, named := ["math/bits.overflowError", "math/bits.divideError"], apart := false, narrowed := true }
def HealthBoundsUptoSaid : Prop := healthBoundsUptoRow.holds Try.pinned (OpenSpec.upto healthBoundsSpec)

/-- 'rheostatlaw18.HealthKeeps', WHERE WHAT IT READS IS OF BULK AT MOST 1048576: true; the input reads as it did. -/
def healthKeepsUptoRow : OpenClaim := { program := "ytjnldeehigmimaa", sum := "f6e0f890eb0d2b917f810dae6961686391f2eaaba6c78b43536a8174eba048eb", func := "rheostat/rheostatlaw18.HealthKeeps", spec := "healthKeeps", inPlace := ["math/bits.Sub64"], unfollowed := true, recurses := true, named := ["math/bits.overflowError", "math/bits.divideError"], apart := false, narrowed := true }
def HealthKeepsUptoSaid : Prop := healthKeepsUptoRow.holds Try.pinned (OpenSpec.upto healthKeepsSpec)

/-- 'rheostatlaw18.HealthLearns', WHERE WHAT IT READS IS OF BULK AT MOST 1048576: true; the input reads as it did. -/
def healthLearnsUptoRow : OpenClaim := { program := "ytjnldeehigmimaa", sum := "f6e0f890eb0d2b917f810dae6961686391f2eaaba6c78b43536a8174eba048eb", func := "rheostat/rheostatlaw18.HealthLearns", spec := "healthLearns", inPlace := ["math/bits.Sub64"], unfollowed := true, recurses := true, named := ["math/bits.overflowError", "math/bits.divideError"], apart := false, narrowed := true }
def HealthLearnsUptoSaid : Prop := healthLearnsUptoRow.holds Try.pinned (OpenSpec.upto healthLearnsSpec)

/-- 'rheostatlaw18.HealthNears', WHERE WHAT IT READS IS OF BULK AT MOST 1048576: true; the input reads as it did. -/
def healthNearsUptoRow : OpenClaim := { program := "ytjnldeehigmimaa", sum := "f6e0f890eb0d2b917f810dae6961686391f2eaaba6c78b43536a8174eba048eb", func := "rheostat/rheostatlaw18.HealthNears", spec := "healthNears", inPlace := ["math/bits.Sub64"], unfollowed := true, recurses := true, named := ["math/bits.overflowError", "math/bits.divideError"], apart := false, narrowed := true }
def HealthNearsUptoSaid : Prop := healthNearsUptoRow.holds Try.pinned (OpenSpec.upto healthNearsSpec)

end Rows
end Go.Proofs.Ytjnldeehigmimaa
