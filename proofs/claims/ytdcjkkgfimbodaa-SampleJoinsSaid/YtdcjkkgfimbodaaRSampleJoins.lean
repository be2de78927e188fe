/-
  SampleJoins: for every input the law returns true, and each argument reads afterwards as it read before. No condition.
-/
import Derived.Test.YtdcjkkgfimbodaaRows
import Derived.Test.YtdcjkkgfimbodaaX
namespace Go.Proofs.Ytdcjkkgfimbodaa
open Go.Sy
namespace sampleJoins
open Go.ChangeShapes Go.WideShapes Go.RowKit Go.ChangeAt
theorem own : ownKnob Try.prog.godebug = none := by kernel_rfl
set_option maxRecDepth 100000 in
theorem lifted (os : Os) (started : os.Started) (H : Type) (enc : TypeId × Value → H) :
    ReturnsInHanded {} Try.checked os 6 .any (Rows.sampleJoinsSpec.pre6 enc Try.prog Try.f6 Rows.sampleJoinsRow.domain false) (Rows.sampleJoinsSpec.post enc Try.prog Try.f6 false true false false) :=
  lifted_of (C := Try.checked) own started (by kernel_rfl) Try.func6
    (ChangeSpec.witness6 (enc := enc) (C := Try.checked) false ⟨#[], #[.slice none 0 0, .agg #[.int .i64 0, .int .i64 0, .int .i64 0, .int .i64 0, .int .i64 0, .int .i64 0, .int .i64 0, .int .i64 0, .int .i64 0, .int .i64 0, .int .i64 0, .int .i64 0, .int .i64 0, .int .i64 0, .int .i64 0]], []⟩ 40 (by kernel_rfl) (by kernel_rfl) (by kernel_rfl) (by kernel_rfl))
    (by kernel_rfl) (ts := [46, 29]) rfl (of_decide_eq_true (by kernel_rfl)) (tb := 4) rfl (by kernel_rfl) rfl
    (fun H ds hl => match ds, hl with | [d0, d1], _ => rfl) (n := 20) (ps := rheostatlaw13_SampleJoins_ps) (by kernel_rfl) (fun W vals hp => rheostatlaw13_SampleJoins_call 1000 (fun t ht => SampleJoins_ok ..) hp)
theorem proved : Rows.SampleJoinsSaid :=
  OpenClaim.holds_of_wide 6 Try.f6 rfl rfl rfl rfl rfl rfl rfl ⟨rfl, rfl, rfl, rfl, rfl⟩ rfl rfl rfl rfl rfl (by kernel_rfl) Try.func6 (by kernel_rfl)
    (of_decide_eq_true (by kernel_rfl)) (by unfold Func.isWrapper; first | (rw [if_pos (by decide +kernel)]; kernel_rfl) | (rw [if_neg (by decide +kernel)]; exact ⟨rfl, rfl⟩))
    (fun os started H enc _ => lifted os started H enc)
#print axioms proved
end sampleJoins
end Go.Proofs.Ytdcjkkgfimbodaa
