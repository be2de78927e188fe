/-
  TableOf: for every input the law returns true, and each argument reads afterwards as it read before. No condition.
-/
import Derived.Test.YtcdfgndefidlgaaRows
import Derived.Test.YtcdfgndefidlgaaV
namespace Go.Proofs.Ytcdfgndefidlgaa
open Go.Sy
namespace tableOf
open Go.ChangeShapes Go.WideShapes Go.RowKit Go.ChangeAt
theorem own : ownKnob Try.prog.godebug = none := by kernel_rfl
set_option maxRecDepth 100000 in
theorem lifted (os : Os) (started : os.Started) (H : Type) (enc : TypeId × Value → H) :
    ReturnsInHanded {} Try.checked os 8 .any (Rows.tableOfSpec.pre6 enc Try.prog Try.f8 Rows.tableOfRow.domain false) (Rows.tableOfSpec.post enc Try.prog Try.f8 false true false false) :=
  lifted_of (C := Try.checked) own started (by kernel_rfl) Try.func8
    (ChangeSpec.witness6 (enc := enc) (C := Try.checked) false ⟨#[], #[.slice none 0 0, .slice none 0 0], []⟩ 40 (by kernel_rfl) (by kernel_rfl) (by kernel_rfl) (by kernel_rfl))
    (by kernel_rfl) (ts := [38, 38]) rfl (of_decide_eq_true (by kernel_rfl)) (tb := 4) rfl (by kernel_rfl) rfl
    (fun H ds hl => match ds, hl with | [d0, d1], _ => rfl) (n := 20) (ps := rheostatlaw10_TableOf_ps) (by kernel_rfl) (fun W vals hp => rheostatlaw10_TableOf_call 1000 (fun t ht => TableOf_ok ..) hp)
theorem proved : Rows.TableOfSaid :=
  OpenClaim.holds_of_wide 8 Try.f8 rfl rfl rfl rfl rfl rfl rfl ⟨rfl, rfl, rfl, rfl, rfl⟩ rfl rfl rfl rfl rfl (by kernel_rfl) Try.func8 (by kernel_rfl)
    (of_decide_eq_true (by kernel_rfl)) (by unfold Func.isWrapper; first | (rw [if_pos (by decide +kernel)]; kernel_rfl) | (rw [if_neg (by decide +kernel)]; exact ⟨rfl, rfl⟩))
    (fun os started H enc _ => lifted os started H enc)
#print axioms proved
end tableOf
end Go.Proofs.Ytcdfgndefidlgaa
