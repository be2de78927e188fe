/-
  No cell of these rows narrows 'for every input' (looked for: loops, veiled, ifaces, maps, wideKeys, modest, calm, conditions, laid).
  DERIVED. THE GIVEN ROWS OF THIS SEAT. 6 by the template 'for every input the law returns true; each argument reads behind the call as it read before'; 0 by the template 'total and deterministic' (their statements: YthimgpokphilkaaTotals.lean).
  GIVEN WITH THE SEED: the statements are not yours to turn. If you find one false, say at which input.
  Laid BY PROGRAM, IN A SANDBOX (cutbox-rows.mjs): the forced cells as the released guide's own fill.sh prints them over the translation 0aecfb36e4601212… (all of the seat's roots in one cut). By AI agents, Wed Nov 11 2026. No macro, syntax, notation, axiom, sorry.
-/
import Derived.Test.YthimgpokphilkaaChecked
import GoSem.Claim
import GoSem.ClaimJoined
import GoSem.ClaimMapViews
import Derived.JoinedTies
import Derived.KernelRfl
namespace Go.Proofs.Ythimgpokphilkaa
/- THE CELL 'sum', in the pinned program and in every row, IS THE sha256 OF THE DUMP (.gsa) THAT YthimgpokphilkaaProg.lean LOADS. Nothing in Lean hashes anything: it is a label: what it is worth is what the hold of that sum in a sandbox is worth. -/
noncomputable def Try.pinned : Pinned := { name := "ythimgpokphilkaa", sum := "0aecfb36e4601212266308b2b306ee414add8b4b115ba813c2fcdaaab988b309", checked := Try.checked }
namespace Rows
def none {H : Type} : Left H := { results := [], args := [] }

/-- 'rheostatlaw14.CoulombNear': WHATEVER THE INPUT: true; the input reads as it did. -/
def coulombNearSpec : ChangeSpec := { name := "coulombNear", fn := fun _ => fun
  | [d1, d2, d3, d4] => { results := [.lit (.bool true)], args := [d1, d2, d3, d4] }
  | _ => none }
def coulombNearRow : OpenClaim := { program := "ythimgpokphilkaa", sum := "0aecfb36e4601212266308b2b306ee414add8b4b115ba813c2fcdaaab988b309", func := "rheostat/rheostatlaw14.CoulombNear", spec := "coulombNear", inPlace := ["math/bits.Sub64"], unfollowed := true, recurses := true, named := ["math/bits.overflowError", "math/bits.divideError"], apart := false }
def CoulombNearSaid : Prop := coulombNearRow.holds Try.pinned (OpenSpec.ofChange coulombNearSpec)

/-- ITS FALSE NEIGHBOUR: 'it returns false'. Refute it at one input. -/
def coulombNearWrong : ChangeSpec := { name := "coulombNear", fn := fun _ => fun
  | [d1, d2, d3, d4] => { results := [.lit (.bool false)], args := [d1, d2, d3, d4] }
  | _ => none }
def CoulombNearWrongFalsely : Prop := coulombNearRow.holds Try.pinned (OpenSpec.ofChange coulombNearWrong)

/-- 'rheostatlaw14.CoulombShows': WHATEVER THE INPUT: true; the input reads as it did. -/
def coulombShowsSpec : ChangeSpec := { name := "coulombShows", fn := fun _ => fun
  | [d1, d2, d3, d4] => { results := [.lit (.bool true)], args := [d1, d2, d3, d4] }
  | _ => none }
def coulombShowsRow : OpenClaim := { program := "ythimgpokphilkaa", sum := "0aecfb36e4601212266308b2b306ee414add8b4b115ba813c2fcdaaab988b309", func := "rheostat/rheostatlaw14.CoulombShows", spec := "coulombShows", inPlace := ["math/bits.Sub64"], unfollowed := true, recurses := true, named := ["math/bits.overflowError", "math/bits.divideError"], apart := false }
def CoulombShowsSaid : Prop := coulombShowsRow.holds Try.pinned (OpenSpec.ofChange coulombShowsSpec)

/-- ITS FALSE NEIGHBOUR: 'it returns false'. Refute it at one input. -/
def coulombShowsWrong : ChangeSpec := { name := "coulombShows", fn := fun _ => fun
  | [d1, d2, d3, d4] => { results := [.lit (.bool false)], args := [d1, d2, d3, d4] }
  | _ => none }
def CoulombShowsWrongFalsely : Prop := coulombShowsRow.holds Try.pinned (OpenSpec.ofChange coulombShowsWrong)

/-- 'rheostatlaw14.CoulombDrawn': WHATEVER THE INPUT: true; the input reads as it did. -/
def coulombDrawnSpec : ChangeSpec := { name := "coulombDrawn", fn := fun _ => fun
  | [d1, d2, d3] => { results := [.lit (.bool true)], args := [d1, d2, d3] }
  | _ => none }
def coulombDrawnRow : OpenClaim := { program := "ythimgpokphilkaa", sum := "0aecfb36e4601212266308b2b306ee414add8b4b115ba813c2fcdaaab988b309", func := "rheostat/rheostatlaw14.CoulombDrawn", spec := "coulombDrawn", inPlace := ["math/bits.Sub64"], unfollowed := true, recurses := true, named := ["math/bits.overflowError", "math/bits.divideError"], apart := false }
def CoulombDrawnSaid : Prop := coulombDrawnRow.holds Try.pinned (OpenSpec.ofChange coulombDrawnSpec)

/-- ITS FALSE NEIGHBOUR: 'it returns false'. Refute it at one input. -/
def coulombDrawnWrong : ChangeSpec := { name := "coulombDrawn", fn := fun _ => fun
  | [d1, d2, d3] => { results := [.lit (.bool false)], args := [d1, d2, d3] }
  | _ => none }
def CoulombDrawnWrongFalsely : Prop := coulombDrawnRow.holds Try.pinned (OpenSpec.ofChange coulombDrawnWrong)

/-- 'rheostatlaw14.CoulombAdds': WHATEVER THE INPUT: true; the input reads as it did. -/
def coulombAddsSpec : ChangeSpec := { name := "coulombAdds", fn := fun _ => fun
  | [d1, d2, d3, d4, d5] => { results := [.lit (.bool true)], args := [d1, d2, d3, d4, d5] }
  | _ => none }
def coulombAddsRow : OpenClaim := { program := "ythimgpokphilkaa", sum := "0aecfb36e4601212266308b2b306ee414add8b4b115ba813c2fcdaaab988b309", func := "rheostat/rheostatlaw14.CoulombAdds", spec := "coulombAdds", inPlace := ["math/bits.Sub64"], unfollowed := true, recurses := true, named := ["math/bits.overflowError", "math/bits.divideError"], apart := false }
def CoulombAddsSaid : Prop := coulombAddsRow.holds Try.pinned (OpenSpec.ofChange coulombAddsSpec)

/-- ITS FALSE NEIGHBOUR: 'it returns false'. Refute it at one input. -/
def coulombAddsWrong : ChangeSpec := { name := "coulombAdds", fn := fun _ => fun
  | [d1, d2, d3, d4, d5] => { results := [.lit (.bool false)], args := [d1, d2, d3, d4, d5] }
  | _ => none }
def CoulombAddsWrongFalsely : Prop := coulombAddsRow.holds Try.pinned (OpenSpec.ofChange coulombAddsWrong)

/-- 'rheostatlaw14.CoulombExact': WHATEVER THE INPUT: true; the input reads as it did. -/
def coulombExactSpec : ChangeSpec := { name := "coulombExact", fn := fun _ => fun
  | [d1, d2] => { results := [.lit (.bool true)], args := [d1, d2] }
  | _ => none }
def coulombExactRow : OpenClaim := { program := "ythimgpokphilkaa", sum := "0aecfb36e4601212266308b2b306ee414add8b4b115ba813c2fcdaaab988b309", func := "rheostat/rheostatlaw14.CoulombExact", spec := "coulombExact", inPlace := ["math/bits.Sub64"], unfollowed := true, recurses := true, named := ["math/bits.overflowError", "math/bits.divideError"], apart := false }
def CoulombExactSaid : Prop := coulombExactRow.holds Try.pinned (OpenSpec.ofChange coulombExactSpec)

/-- ITS FALSE NEIGHBOUR: 'it returns false'. Refute it at one input. -/
def coulombExactWrong : ChangeSpec := { name := "coulombExact", fn := fun _ => fun
  | [d1, d2] => { results := [.lit (.bool false)], args := [d1, d2] }
  | _ => none }
def CoulombExactWrongFalsely : Prop := coulombExactRow.holds Try.pinned (OpenSpec.ofChange coulombExactWrong)

/-- 'rheostatlaw14.CoulombOrder': WHATEVER THE INPUT: true; the input reads as it did. -/
def coulombOrderSpec : ChangeSpec := { name := "coulombOrder", fn := fun _ => fun
  | [d1, d2, d3] => { results := [.lit (.bool true)], args := [d1, d2, d3] }
  | _ => none }
def coulombOrderRow : OpenClaim := { program := "ythimgpokphilkaa", sum := "0aecfb36e4601212266308b2b306ee414add8b4b115ba813c2fcdaaab988b309", func := "rheostat/rheostatlaw14.CoulombOrder", spec := "coulombOrder", inPlace := ["math/bits.Sub64"], unfollowed := true, recurses := true, named := ["math/bits.overflowError", "math/bits.divideError"], apart := false }
def CoulombOrderSaid : Prop := coulombOrderRow.holds Try.pinned (OpenSpec.ofChange coulombOrderSpec)

/-- ITS FALSE NEIGHBOUR: 'it returns false'. Refute it at one input. -/
def coulombOrderWrong : ChangeSpec := { name := "coulombOrder", fn := fun _ => fun
  | [d1, d2, d3] => { results := [.lit (.bool false)], args := [d1, d2, d3] }
  | _ => none }
def CoulombOrderWrongFalsely : Prop := coulombOrderRow.holds Try.pinned (OpenSpec.ofChange coulombOrderWrong)

/- THE SECOND FORM. 'bulk': how many values and letters a reading holds, each counted each time it is reached (what is shared counts as often as it is met; a slice's spare places count too). A statement '..UptoSaid' is the law's where the arguments, and the package variables that the reading takes, are together of bulk at most 1048576: NARROWER than '..Said'. Prove '..Said' where nothing that the law and all that it calls make is longer than what came in: it says more and counts as full. Else prove '..UptoSaid'. A law counts once. -/
mutual
def uptoBulk {H : Type} : DataW H → Nat
  | .lit (.string bytes) => bytes.length + 1
  | .lit _ => 1
  | .nil => 1
  | .ptr d => uptoBulk d + 1
  | .slice elems spare => uptoBulkAll elems + uptoBulkAll spare + 1
  | .agg parts => uptoBulkAll parts + 1
  | .iface _ d => uptoBulk d + 1
  | .map entries => uptoBulkEntries entries + 1
  | .held _ => 1
def uptoBulkAll {H : Type} : List (DataW H) → Nat
  | [] => 0
  | d :: r => uptoBulk d + uptoBulkAll r
def uptoBulkEntries {H : Type} : List (Lit × DataW H) → Nat
  | [] => 0
  | x :: r => uptoBulkEntry x + uptoBulkEntries r
def uptoBulkEntry {H : Type} : Lit × DataW H → Nat
  | (.string bytes, d) => bytes.length + uptoBulk d + 1
  | (_, d) => uptoBulk d + 1
 end
def uptoSmall : (H : Type) → List (DataW H) → Bool := fun _ ds => decide (uptoBulkAll ds ≤ 1048576)
def OpenSpec.upto (s : _root_.Go.ChangeSpec) : _root_.Go.OpenSpec := { _root_.Go.OpenSpec.ofChange s with cond := some uptoSmall }

/-- 'rheostatlaw14.CoulombNear', WHERE WHAT IT READS IS OF BULK AT MOST 1048576: true; the input reads as it did. -/
def coulombNearUptoRow : OpenClaim := { program := "ythimgpokphilkaa", sum := "0aecfb36e4601212266308b2b306ee414add8b4b115ba813c2fcdaaab988b309", func := "rheostat/rheostatlaw14.CoulombNear", spec := "coulombNear", inPlace := ["math/bits.Sub64"], unfollowed := true, recurses := true, named := ["math/bits.overflowError", "math/bits.divideError"], apart := false, narrowed := true }
def CoulombNearUptoSaid : Prop := coulombNearUptoRow.holds Try.pinned (OpenSpec.upto coulombNearSpec)

/-- 'rheostatlaw14.CoulombShows', WHERE WHAT IT READS IS OF BULK AT MOST 1048576: true; the input reads as it did. -/
def coulombShowsUptoRow : OpenClaim := { program := "ythimgpokphilkaa", sum := "0aecfb36e4601212266308b2b306ee414add8b4b115ba813c2fcdaaab988b309", func := "rheostat/rheostatlaw14.CoulombShows", spec := "coulombShows", inPlace := ["math/bits.Sub64"], unfollowed := true, recurses := true, named := ["math/bits.overflowError", "math/bits.divideError"], apart := false, narrowed := true }
def CoulombShowsUptoSaid : Prop := coulombShowsUptoRow.holds Try.pinned (OpenSpec.upto coulombShowsSpec)

/-- 'rheostatlaw14.CoulombDrawn', WHERE WHAT IT READS IS OF BULK AT MOST 1048576: true; the input reads as it did. -/
def coulombDrawnUptoRow : OpenClaim := { program := "ythimgpokphilkaa", sum := "0aecfb36e4601212266308b2b306ee414add8b4b115ba813c2fcdaaab988b309", func := "rheostat/rheostatlaw14.CoulombDrawn", spec := "coulombDrawn", inPlace := ["math/bits.Sub64"], unfollowed := true, recurses := true, named := ["math/bits.overflowError", "math/bits.divideError"], apart := false, narrowed := true }
def CoulombDrawnUptoSaid : Prop := coulombDrawnUptoRow.holds Try.pinned (OpenSpec.upto coulombDrawnSpec)

/-- 'rheostatlaw14.CoulombAdds', WHERE WHAT IT READS IS OF BULK AT MOST 1048576: true; the input reads as it did. -/
def coulombAddsUptoRow : OpenClaim := { program := "ythimgpokphilkaa", sum := "0aecfb36e4601212266308b2b306ee414add8b4b115ba813c2fcdaaab988b309", func := "rheostat/rheostatlaw14.CoulombAdds", spec := "coulombAdds", inPlace := ["math/bits.Sub64"], unfollowed := true, recurses := true, named := ["math/bits.overflowError", "math/bits.divideError"], apart := false, narrowed := true }
def CoulombAddsUptoSaid : Prop := coulombAddsUptoRow.holds Try.pinned (OpenSpec.upto coulombAddsSpec)

/-- 'rheostatlaw14.CoulombExact', WHERE WHAT IT READS IS OF BULK AT MOST 1048576: true; the input reads as it did. -/
def coulombExactUptoRow : OpenClaim := { program := "ythimgpokphilkaa", sum := "0aecfb36e4601212266308b2b306ee414add8b4b115ba813c2fcdaaab988b309", func := "rheostat/rheostatlaw14.CoulombExact", spec := "coulombExact", inPlace := ["math/bits.Sub64"], unfollowed := true, recurses := true, named := ["math/bits.overflowError", "math/bits.divideError"], apart := false, narrowed := true }
def CoulombExactUptoSaid : Prop := coulombExactUptoRow.holds Try.pinned (OpenSpec.upto coulombExactSpec)

/-- 'rheostatlaw14.CoulombOrder', WHERE WHAT IT READS IS OF BULK AT MOST 1048576: true; the input reads as it did. -/
def coulombOrderUptoRow : OpenClaim := { program := "ythimgpokphilkaa", sum := "0aecfb36e4601212266308b2b306ee414add8b4b115ba813c2fcdaaab988b309", func := "rheostat/rheostatlaw14.CoulombOrder", spec := "coulombOrder", inPlace := ["math/bits.Sub64"], unfollowed := true, recurses := true, named := ["math/bits.overflowError", "math/bits.divideError"], apart := false, narrowed := true }
def CoulombOrderUptoSaid : Prop := coulombOrderUptoRow.holds Try.pinned (OpenSpec.upto coulombOrderSpec)

end Rows
end Go.Proofs.Ythimgpokphilkaa
