/-
  No cell of these rows narrows 'for every input' (looked for: loops, veiled, ifaces, maps, wideKeys, modest, calm, conditions, laid).
  DERIVED. THE GIVEN ROWS OF THIS SEAT. 6 by the template 'for every input the law returns true; each argument reads behind the call as it read before'; 0 by the template 'total and deterministic' (their statements: YtjmbhhinmbgneaaGreatTotals.lean).
  GIVEN WITH THE SEED: the statements are not yours to turn. If you find one false, say at which input.
  Laid BY PROGRAM, IN A SANDBOX (cutbox-rows.mjs): the forced cells as the released guide's own fill.sh prints them over the translation cc3e075732b83be8… (all of the seat's roots in one cut). By AI agents, Wed Nov 11 2026. No macro, syntax, notation, axiom, sorry.
-/
import Derived.Test.YtjmbhhinmbgneaaGreatChecked
import GoSem.Claim
import GoSem.ClaimJoined
import GoSem.ClaimMapViews
import Derived.JoinedTies
import Derived.KernelRfl
namespace Go.Proofs.YtjmbhhinmbgneaaGreat
/- THE CELL 'sum', in the pinned program and in every row, IS THE sha256 OF THE DUMP (.gsa) THAT YtjmbhhinmbgneaaGreatProg.lean LOADS. Nothing in Lean hashes anything: it is a label: what it is worth is what the hold of that sum in a sandbox is worth. -/
noncomputable def Tryz.pinned : Pinned := { name := "ytjmbhhinmbgneaagreat", sum := "cc3e075732b83be86e083ea526f2426a10386b0bee544ca41934261aca774cc6", checked := Tryz.checked }
namespace Rows
def none {H : Type} : Left H := { results := [], args := [] }

/-- 'rheostatlaw21.StateSteps': WHATEVER THE INPUT: true; the input reads as it did. -/
def stateStepsSpec : ChangeSpec := { name := "stateSteps", fn := fun _ => fun
  | [d1, d2, d3] => { results := [.lit (.bool true)], args := [d1, d2, d3] }
  | _ => none }
def stateStepsRow : OpenClaim := { program := "ytjmbhhinmbgneaagreat", sum := "cc3e075732b83be86e083ea526f2426a10386b0bee544ca41934261aca774cc6", func := "rheostat/rheostatlaw21.StateSteps", spec := "stateSteps", inPlace := ["math/bits.Sub64"], unfollowed := true, recurses := true, named := ["math/bits.overflowError", "math/bits.divideError"], apart := false }
def StateStepsSaid : Prop := stateStepsRow.holds Tryz.pinned (OpenSpec.ofChange stateStepsSpec)

/-- ITS FALSE NEIGHBOUR: 'it returns false'. Refute it at one input. -/
def stateStepsWrong : ChangeSpec := { name := "stateSteps", fn := fun _ => fun
  | [d1, d2, d3] => { results := [.lit (.bool false)], args := [d1, d2, d3] }
  | _ => none }
def StateStepsWrongFalsely : Prop := stateStepsRow.holds Tryz.pinned (OpenSpec.ofChange stateStepsWrong)

/-- 'rheostatlaw21.StatePlays': WHATEVER THE INPUT: true; the input reads as it did. -/
def statePlaysSpec : ChangeSpec := { name := "statePlays", fn := fun _ => fun
  | [d1, d2] => { results := [.lit (.bool true)], args := [d1, d2] }
  | _ => none }
def statePlaysRow : OpenClaim := { program := "ytjmbhhinmbgneaagreat", sum := "cc3e075732b83be86e083ea526f2426a10386b0bee544ca41934261aca774cc6", func := "rheostat/rheostatlaw21.StatePlays", spec := "statePlays", inPlace := ["math/bits.Sub64"], unfollowed := true, recurses := true, named := ["math/bits.overflowError", "math/bits.divideError"], apart := false }
def StatePlaysSaid : Prop := statePlaysRow.holds Tryz.pinned (OpenSpec.ofChange statePlaysSpec)

/-- ITS FALSE NEIGHBOUR: 'it returns false'. Refute it at one input. -/
def statePlaysWrong : ChangeSpec := { name := "statePlays", fn := fun _ => fun
  | [d1, d2] => { results := [.lit (.bool false)], args := [d1, d2] }
  | _ => none }
def StatePlaysWrongFalsely : Prop := statePlaysRow.holds Tryz.pinned (OpenSpec.ofChange statePlaysWrong)

/-- 'rheostatlaw21.StateFits': WHATEVER THE INPUT: true; the input reads as it did. -/
def stateFitsSpec : ChangeSpec := { name := "stateFits", fn := fun _ => fun
  | [d1, d2, d3] => { results := [.lit (.bool true)], args := [d1, d2, d3] }
  | _ => none }
def stateFitsRow : OpenClaim := { program := "ytjmbhhinmbgneaagreat", sum := "cc3e075732b83be86e083ea526f2426a10386b0bee544ca41934261aca774cc6", func := "rheostat/rheostatlaw21.StateFits", spec := "stateFits", inPlace := ["math/bits.Sub64"], unfollowed := true, recurses := true, named := ["math/bits.overflowError", "math/bits.divideError"], apart := false }
def StateFitsSaid : Prop := stateFitsRow.holds Tryz.pinned (OpenSpec.ofChange stateFitsSpec)

/-- ITS FALSE NEIGHBOUR: 'it returns false'. Refute it at one input. -/
def stateFitsWrong : ChangeSpec := { name := "stateFits", fn := fun _ => fun
  | [d1, d2, d3] => { results := [.lit (.bool false)], args := [d1, d2, d3] }
  | _ => none }
def StateFitsWrongFalsely : Prop := stateFitsRow.holds Tryz.pinned (OpenSpec.ofChange stateFitsWrong)

/-- 'rheostatlaw21.StateExact': WHATEVER THE INPUT: true; the input reads as it did. -/
def stateExactSpec : ChangeSpec := { name := "stateExact", fn := fun _ => fun
  | [d1, d2] => { results := [.lit (.bool true)], args := [d1, d2] }
  | _ => none }
def stateExactRow : OpenClaim := { program := "ytjmbhhinmbgneaagreat", sum := "cc3e075732b83be86e083ea526f2426a10386b0bee544ca41934261aca774cc6", func := "rheostat/rheostatlaw21.StateExact", spec := "stateExact", inPlace := ["math/bits.Sub64"], unfollowed := true, recurses := true, named := ["math/bits.overflowError", "math/bits.divideError"], apart := false }
def StateExactSaid : Prop := stateExactRow.holds Tryz.pinned (OpenSpec.ofChange stateExactSpec)

/-- ITS FALSE NEIGHBOUR: 'it returns false'. Refute it at one input. -/
def stateExactWrong : ChangeSpec := { name := "stateExact", fn := fun _ => fun
  | [d1, d2] => { results := [.lit (.bool false)], args := [d1, d2] }
  | _ => none }
def StateExactWrongFalsely : Prop := stateExactRow.holds Tryz.pinned (OpenSpec.ofChange stateExactWrong)

/-- 'rheostatlaw21.StateMoves': WHATEVER THE INPUT: true; the input reads as it did. -/
def stateMovesSpec : ChangeSpec := { name := "stateMoves", fn := fun _ => fun
  | [d1, d2, d3] => { results := [.lit (.bool true)], args := [d1, d2, d3] }
  | _ => none }
def stateMovesRow : OpenClaim := { program := "ytjmbhhinmbgneaagreat", sum := "cc3e075732b83be86e083ea526f2426a10386b0bee544ca41934261aca774cc6", func := "rheostat/rheostatlaw21.StateMoves", spec := "stateMoves", inPlace := ["math/bits.Sub64"], unfollowed := true, recurses := true, named := ["math/bits.overflowError", "math/bits.divideError"], apart := false }
def StateMovesSaid : Prop := stateMovesRow.holds Tryz.pinned (OpenSpec.ofChange stateMovesSpec)

/-- ITS FALSE NEIGHBOUR: 'it returns false'. Refute it at one input. -/
def stateMovesWrong : ChangeSpec := { name := "stateMoves", fn := fun _ => fun
  | [d1, d2, d3] => { results := [.lit (.bool false)], args := [d1, d2, d3] }
  | _ => none }
def StateMovesWrongFalsely : Prop := stateMovesRow.holds Tryz.pinned (OpenSpec.ofChange stateMovesWrong)

/-- 'rheostatlaw21.StateTwice': WHATEVER THE INPUT: true; the input reads as it did. -/
def stateTwiceSpec : ChangeSpec := { name := "stateTwice", fn := fun _ => fun
  | [d1, d2, d3] => { results := [.lit (.bool true)], args := [d1, d2, d3] }
  | _ => none }
def stateTwiceRow : OpenClaim := { program := "ytjmbhhinmbgneaagreat", sum := "cc3e075732b83be86e083ea526f2426a10386b0bee544ca41934261aca774cc6", func := "rheostat/rheostatlaw21.StateTwice", spec := "stateTwice", inPlace := ["math/bits.Sub64"], unfollowed := true, recurses := true, named := ["math/bits.overflowError", "math/bits.divideError"], apart := false }
def StateTwiceSaid : Prop := stateTwiceRow.holds Tryz.pinned (OpenSpec.ofChange stateTwiceSpec)

/-- ITS FALSE NEIGHBOUR: 'it returns false'. Refute it at one input. -/
def stateTwiceWrong : ChangeSpec := { name := "stateTwice", fn := fun _ => fun
  | [d1, d2, d3] => { results := [.lit (.bool false)], args := [d1, d2, d3] }
  | _ => none }
def StateTwiceWrongFalsely : Prop := stateTwiceRow.holds Tryz.pinned (OpenSpec.ofChange stateTwiceWrong)

/- THE SECOND FORM. 'bulk': how many values and letters a reading holds, each counted each time it is reached (what is shared counts as often as it is met; a slice's spare places count too). A statement '..UptoSaid' is the law's where the arguments, and the package variables that the reading takes, are together of bulk at most 1048576: NARROWER than '..Said'. Prove '..Said' where nothing that the law and all that it calls make is longer than what came in: it says more and counts as full. Else prove '..UptoSaid'. A law counts once. -/
mutual
def uptoBulk {H : Type} : DataW H → Nat
  | .lit (.string bytes) => bytes.length + 1
  | .lit _ => 1
  | .nil => 1
  | .ptr d => uptoBulk d + 1
  | .slice elems spare => uptoBulkAll elems + uptoBulkAll spare + 1
  | .agg parts => uptoBulkAll parts + 1
  | .iface _ d => uptoBulk d + 1
  | .map entries => uptoBulkEntries entries + 1
  | .held _ => 1
def uptoBulkAll {H : Type} : List (DataW H) → Nat
  | [] => 0
  | d :: r => uptoBulk d + uptoBulkAll r
def uptoBulkEntries {H : Type} : List (Lit × DataW H) → Nat
  | [] => 0
  | x :: r => uptoBulkEntry x + uptoBulkEntries r
def uptoBulkEntry {H : Type} : Lit × DataW H → Nat
  | (.string bytes, d) => bytes.length + uptoBulk d + 1
  | (_, d) => uptoBulk d + 1
 end
def uptoSmall : (H : Type) → List (DataW H) → Bool := fun _ ds => decide (uptoBulkAll ds ≤ 1048576)
def OpenSpec.upto (s : _root_.Go.ChangeSpec) : _root_.Go.OpenSpec := { _root_.Go.OpenSpec.ofChange s with cond := some uptoSmall }

/-- 'rheostatlaw21.StateSteps', WHERE WHAT IT READS IS OF BULK AT MOST 1048576: true; the input reads as it did. -/
def stateStepsUptoRow : OpenClaim := { program := "ytjmbhhinmbgneaagreat", sum := "cc3e075732b83be86e083ea526f2426a10386b0bee544ca41934261aca774cc6", func := "rheostat/rheostatlaw21.StateSteps", spec := "stateSteps", inPlace := ["math/bits.Sub64"], unfollowed := true, recurses := true, named := ["math/bits.overflowError", "math/bits.divideError"], apart := false, narrowed := true }
def StateStepsUptoSaid : Prop := stateStepsUptoRow.holds Tryz.pinned (OpenSpec.upto stateStepsSpec)

/-- 'rheostatlaw21.StatePlays', WHERE WHAT IT READS IS OF BULK AT MOST 1048576: true; the input reads as it did. -/
def statePlaysUptoRow : OpenClaim := { program := "ytjmbhhinmbgneaagreat", sum := "cc3e075732b83be86e083ea526f2426a10386b0bee544ca41934261aca774cc6", func := "rheostat/rheostatlaw21.StatePlays", spec := "statePlays", inPlace := ["math/bits.Sub64"], unfollowed := true, recurses := true, named := ["math/bits.overflowError", "math/bits.divideError"], apart := false, narrowed := true }
def StatePlaysUptoSaid : Prop := statePlaysUptoRow.holds Tryz.pinned (OpenSpec.upto statePlaysSpec)

/-- 'rheostatlaw21.StateFits', WHERE WHAT IT READS IS OF BULK AT MOST 1048576: true; the input reads as it did. -/
def stateFitsUptoRow : OpenClaim := { program := "ytjmbhhinmbgneaagreat", sum := "cc3e075732b83be86e083ea526f2426a10386b0bee544ca41934261aca774cc6", func := "rheostat/rheostatlaw21.StateFits", spec := "stateFits", inPlace := ["math/bits.Sub64"], unfollowed := true, recurses := true, named := ["math/bits.overflowError", "math/bits.divideError"], apart := false, narrowed := true }
def StateFitsUptoSaid : Prop := stateFitsUptoRow.holds Tryz.pinned (OpenSpec.upto stateFitsSpec)

/-- 'rheostatlaw21.StateExact', WHERE WHAT IT READS IS OF BULK AT MOST 1048576: true; the input reads as it did. -/
def stateExactUptoRow : OpenClaim := { program := "ytjmbhhinmbgneaagreat", sum := "cc3e075732b83be86e083ea526f2426a10386b0bee544ca41934261aca774cc6", func := "rheostat/rheostatlaw21.StateExact", spec := "stateExact", inPlace := ["math/bits.Sub64"], unfollowed := true, recurses := true, named := ["math/bits.overflowError", "math/bits.divideError"], apart := false, narrowed := true }
def StateExactUptoSaid : Prop := stateExactUptoRow.holds Tryz.pinned (OpenSpec.upto stateExactSpec)

/-- 'rheostatlaw21.StateMoves', WHERE WHAT IT READS IS OF BULK AT MOST 1048576: true; the input reads as it did. -/
def stateMovesUptoRow : OpenClaim := { program := "ytjmbhhinmbgneaagreat", sum := "cc3e075732b83be86e083ea526f2426a10386b0bee544ca41934261aca774cc6", func := "rheostat/rheostatlaw21.StateMoves", spec := "stateMoves", inPlace := ["math/bits.Sub64"], unfollowed := true, recurses := true, named := ["math/bits.overflowError", "math/bits.divideError"], apart := false, narrowed := true }
def StateMovesUptoSaid : Prop := stateMovesUptoRow.holds Tryz.pinned (OpenSpec.upto stateMovesSpec)

/-- 'rheostatlaw21.StateTwice', WHERE WHAT IT READS IS OF BULK AT MOST 1048576: true; the input reads as it did. -/
def stateTwiceUptoRow : OpenClaim := { program := "ytjmbhhinmbgneaagreat", sum := "cc3e075732b83be86e083ea526f2426a10386b0bee544ca41934261aca774cc6", func := "rheostat/rheostatlaw21.StateTwice", spec := "stateTwice", inPlace := ["math/bits.Sub64"], unfollowed := true, recurses := true, named := ["math/bits.overflowError", "math/bits.divideError"], apart := false, narrowed := true }
def StateTwiceUptoSaid : Prop := stateTwiceUptoRow.holds Tryz.pinned (OpenSpec.upto stateTwiceSpec)

end Rows
end Go.Proofs.YtjmbhhinmbgneaaGreat
