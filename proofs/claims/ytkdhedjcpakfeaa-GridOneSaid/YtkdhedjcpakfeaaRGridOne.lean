/-
  GridOne: for every input the law returns true, and each argument reads afterwards as it read before. No condition.
-/
import Derived.Test.YtkdhedjcpakfeaaRows
import Derived.Test.YtkdhedjcpakfeaaX
namespace Go.Proofs.Ytkdhedjcpakfeaa
open Go.Sy
namespace gridOne
open Go.ChangeShapes Go.WideShapes Go.RowKit Go.ChangeAt
theorem own : ownKnob Try.prog.godebug = none := by kernel_rfl
set_option maxRecDepth 100000 in
theorem lifted (os : Os) (started : os.Started) (H : Type) (enc : TypeId × Value → H) :
    ReturnsInHanded {} Try.checked os 5 .any (Rows.gridOneSpec.pre6 enc Try.prog Try.f5 Rows.gridOneRow.domain false) (Rows.gridOneSpec.post enc Try.prog Try.f5 false true false false) :=
  lifted_of (C := Try.checked) own started (by kernel_rfl) Try.func5
    (ChangeSpec.witness6 (enc := enc) (C := Try.checked) false ⟨#[], #[.slice none 0 0, .int .i64 0, .int .i64 0], []⟩ 40 (by kernel_rfl) (by kernel_rfl) (by kernel_rfl) (by kernel_rfl))
    (by kernel_rfl) (ts := [33, 3, 3]) rfl (of_decide_eq_true (by kernel_rfl)) (tb := 4) rfl (by kernel_rfl) rfl
    (fun H ds hl => match ds, hl with | [d0, d1, d2], _ => rfl) (n := 20) (ps := rheostatlaw11_GridOne_ps) (by kernel_rfl) (fun W vals hp => rheostatlaw11_GridOne_call 20000 (fun t ht => GridOne_ok ..) hp)
theorem proved : Rows.GridOneSaid :=
  OpenClaim.holds_of_wide 5 Try.f5 rfl rfl rfl rfl rfl rfl rfl ⟨rfl, rfl, rfl, rfl, rfl⟩ rfl rfl rfl rfl rfl (by kernel_rfl) Try.func5 (by kernel_rfl)
    (of_decide_eq_true (by kernel_rfl)) (by unfold Func.isWrapper; first | (rw [if_pos (by decide +kernel)]; kernel_rfl) | (rw [if_neg (by decide +kernel)]; exact ⟨rfl, rfl⟩))
    (fun os started H enc _ => lifted os started H enc)
#print axioms proved
end gridOne
end Go.Proofs.Ytkdhedjcpakfeaa
