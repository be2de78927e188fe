/-
  SampleOne: for every input the law returns true, and each argument reads afterwards as it read before. No condition.
-/
import Derived.Test.YtdcjkkgfimbodaaRows
import Derived.Test.YtdcjkkgfimbodaaX
namespace Go.Proofs.Ytdcjkkgfimbodaa
open Go.Sy
namespace sampleOne
open Go.ChangeShapes Go.WideShapes Go.RowKit Go.ChangeAt
theorem own : ownKnob Try.prog.godebug = none := by kernel_rfl
set_option maxRecDepth 100000 in
theorem lifted (os : Os) (started : os.Started) (H : Type) (enc : TypeId × Value → H) :
    ReturnsInHanded {} Try.checked os 7 .any (Rows.sampleOneSpec.pre6 enc Try.prog Try.f7 Rows.sampleOneRow.domain false) (Rows.sampleOneSpec.post enc Try.prog Try.f7 false true false false) :=
  lifted_of (C := Try.checked) own started (by kernel_rfl) Try.func7
    (ChangeSpec.witness6 (enc := enc) (C := Try.checked) false ⟨#[], #[.agg #[.int .i64 0, .int .i64 0, .int .i64 0, .int .i64 0], .int .i64 0], []⟩ 40 (by kernel_rfl) (by kernel_rfl) (by kernel_rfl) (by kernel_rfl))
    (by kernel_rfl) (ts := [32, 3]) rfl (of_decide_eq_true (by kernel_rfl)) (tb := 4) rfl (by kernel_rfl) rfl
    (fun H ds hl => match ds, hl with | [d0, d1], _ => rfl) (n := 20) (ps := rheostatlaw13_SampleOne_ps) (by kernel_rfl) (fun W vals hp => rheostatlaw13_SampleOne_call 1000 (fun t ht => SampleOne_ok ..) hp)
theorem proved : Rows.SampleOneSaid :=
  OpenClaim.holds_of_wide 7 Try.f7 rfl rfl rfl rfl rfl rfl rfl ⟨rfl, rfl, rfl, rfl, rfl⟩ rfl rfl rfl rfl rfl (by kernel_rfl) Try.func7 (by kernel_rfl)
    (of_decide_eq_true (by kernel_rfl)) (by unfold Func.isWrapper; first | (rw [if_pos (by decide +kernel)]; kernel_rfl) | (rw [if_neg (by decide +kernel)]; exact ⟨rfl, rfl⟩))
    (fun os started H enc _ => lifted os started H enc)
#print axioms proved
end sampleOne
end Go.Proofs.Ytdcjkkgfimbodaa
