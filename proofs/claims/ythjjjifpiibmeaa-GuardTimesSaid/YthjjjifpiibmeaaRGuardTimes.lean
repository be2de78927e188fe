/-
  GuardTimes: for every input the law returns true, and each argument reads afterwards as it read before. No condition.
-/
import Derived.Test.YthjjjifpiibmeaaRows
import Derived.Test.YthjjjifpiibmeaaP
namespace Go.Proofs.Ythjjjifpiibmeaa
open Go.Sy
namespace guardTimes
open Go.ChangeShapes Go.WideShapes Go.RowKit Go.ChangeAt
theorem own : ownKnob Try.prog.godebug = none := by kernel_rfl
set_option maxRecDepth 100000 in
theorem lifted (os : Os) (started : os.Started) (H : Type) (enc : TypeId × Value → H) :
    ReturnsInHanded {} Try.checked os 4 .any (Rows.guardTimesSpec.pre6 enc Try.prog Try.f4 Rows.guardTimesRow.domain false) (Rows.guardTimesSpec.post enc Try.prog Try.f4 false true false false) :=
  lifted_of (C := Try.checked) own started (by kernel_rfl) Try.func4
    (ChangeSpec.witness6 (enc := enc) (C := Try.checked) false ⟨#[], #[.agg #[.int .i64 0, .bool false, .int .i64 0, .int .i64 0], .int .i64 0, .slice none 0 0], []⟩ 40 (by kernel_rfl) (by kernel_rfl) (by kernel_rfl) (by kernel_rfl))
    (by kernel_rfl) (ts := [23, 3, 30]) rfl (of_decide_eq_true (by kernel_rfl)) (tb := 4) rfl (by kernel_rfl) rfl
    (fun H ds hl => match ds, hl with | [d0, d1, d2], _ => rfl) (n := 20) (ps := rheostatlaw20_GuardTimes_ps) (by kernel_rfl) (fun W vals hp => rheostatlaw20_GuardTimes_call 1000 (fun t ht => GuardTimes_ok ..) hp)
theorem proved : Rows.GuardTimesSaid :=
  OpenClaim.holds_of_wide 4 Try.f4 rfl rfl rfl rfl rfl rfl rfl ⟨rfl, rfl, rfl, rfl, rfl⟩ rfl rfl rfl rfl rfl (by kernel_rfl) Try.func4 (by kernel_rfl)
    (of_decide_eq_true (by kernel_rfl)) (by unfold Func.isWrapper; first | (rw [if_pos (by decide +kernel)]; kernel_rfl) | (rw [if_neg (by decide +kernel)]; exact ⟨rfl, rfl⟩))
    (fun os started H enc _ => lifted os started H enc)
#print axioms proved
end guardTimes
end Go.Proofs.Ythjjjifpiibmeaa
