/-
  The functions of law 21, as plain functions, and that the program does what they say. Printed by a program of ours.
-/
import Derived.Test.YtjmbhhinmbgneaaGreatChecked
import Derived.Test.YtjmbhhinmbgneaaGreatSyLib
import Derived.KernelRfl
namespace Go.Proofs.YtjmbhhinmbgneaaGreat
open Go.Sy
set_option maxRecDepth 100000
set_option linter.unusedVariables false
noncomputable def tt : List TI := [
  ⟨0, [], .other⟩,
  ⟨0, [], .other⟩,
  ⟨0, [], .other⟩,
  ⟨1, [.i0 .i64 0], .int .i64⟩,
  ⟨1, [.b0 false], .bool⟩,
  ⟨1, [.i0 .u8 0], .int .u8⟩,
  ⟨0, [], .other⟩,
  ⟨0, [], .other⟩,
  ⟨0, [], .other⟩,
  ⟨1, [.s0 ⟨#[]⟩], .str⟩,
  ⟨0, [], .other⟩,
  ⟨0, [], .other⟩,
  ⟨0, [], .other⟩,
  ⟨0, [], .other⟩,
  ⟨0, [], .other⟩,
  ⟨0, [], .other⟩,
  ⟨0, [], .other⟩,
  ⟨0, [], .other⟩,
  ⟨0, [], .other⟩,
  ⟨0, [], .other⟩,
  ⟨0, [], .other⟩,
  ⟨0, [], .other⟩,
  ⟨0, [], .other⟩,
  ⟨3, [.i0 .i64 0, .i0 .i64 0, .i0 .i64 0], .st [(0, 1, false), (1, 1, false), (2, 1, false)]⟩,
  ⟨9, [.i0 .i64 0, .i0 .i64 0, .i0 .i64 0, .i0 .i64 0, .i0 .i64 0, .i0 .i64 0, .i0 .i64 0, .i0 .i64 0, .i0 .i64 0], .arr 3 3 true⟩,
  ⟨0, [], .other⟩,
  ⟨2, [.i0 .i64 0, .i0 .i64 0], .st [(0, 1, false), (1, 1, false)]⟩,
  ⟨6, [.i0 .i64 0, .i0 .i64 0, .i0 .i64 0, .i0 .i64 0, .i0 .i64 0, .i0 .i64 0], .arr 3 2 true⟩,
  ⟨0, [], .other⟩,
  ⟨8, [.i0 .i64 0, .i0 .i64 0, .i0 .i64 0, .i0 .i64 0, .i0 .i64 0, .i0 .i64 0, .i0 .i64 0, .i0 .i64 0], .st [(0, 1, false), (1, 1, false), (2, 1, false), (3, 1, false), (4, 1, false), (5, 1, false), (6, 1, false), (7, 1, false)]⟩,
  ⟨1, [.sln], .sl 1 8 false [.i0 .i64 0]⟩,
  ⟨0, [], .other⟩,
  ⟨3, [.sln, .sln, .sln], .st [(0, 1, false), (1, 1, false), (2, 1, false)]⟩,
  ⟨0, [], .other⟩,
  ⟨4, [.i0 .i64 0, .b0 false, .i0 .i64 0, .i0 .i64 0], .st [(0, 1, false), (1, 1, false), (2, 1, false), (3, 1, false)]⟩,
  ⟨24, [.i0 .i64 0, .b0 false, .i0 .i64 0, .i0 .i64 0, .i0 .i64 0, .b0 false, .i0 .i64 0, .i0 .i64 0, .i0 .i64 0, .b0 false, .i0 .i64 0, .i0 .i64 0, .i0 .i64 0, .b0 false, .i0 .i64 0, .i0 .i64 0, .i0 .i64 0, .b0 false, .i0 .i64 0, .i0 .i64 0, .i0 .i64 0, .b0 false, .i0 .i64 0, .i0 .i64 0], .arr 6 4 true⟩,
  ⟨0, [], .other⟩,
  ⟨57, [.i0 .i64 0, .i0 .i64 0, .i0 .i64 0, .i0 .i64 0, .i0 .i64 0, .i0 .i64 0, .i0 .i64 0, .i0 .i64 0, .i0 .i64 0, .i0 .i64 0, .i0 .i64 0, .i0 .i64 0, .i0 .i64 0, .i0 .i64 0, .i0 .i64 0, .i0 .i64 0, .i0 .i64 0, .i0 .i64 0, .i0 .i64 0, .i0 .i64 0, .i0 .i64 0, .i0 .i64 0, .i0 .i64 0, .sln, .sln, .sln, .i0 .i64 0, .i0 .i64 0, .i0 .i64 0, .i0 .i64 0, .i0 .i64 0, .i0 .i64 0, .b0 false, .i0 .i64 0, .i0 .i64 0, .i0 .i64 0, .b0 false, .i0 .i64 0, .i0 .i64 0, .i0 .i64 0, .b0 false, .i0 .i64 0, .i0 .i64 0, .i0 .i64 0, .b0 false, .i0 .i64 0, .i0 .i64 0, .i0 .i64 0, .b0 false, .i0 .i64 0, .i0 .i64 0, .i0 .i64 0, .b0 false, .i0 .i64 0, .i0 .i64 0, .i0 .i64 0, .i0 .i64 0], .st [(0, 9, true), (9, 6, true), (15, 8, true), (23, 3, true), (26, 1, false), (27, 1, false), (28, 1, false), (29, 1, false), (30, 1, false), (31, 24, true), (55, 1, false), (56, 1, false)]⟩,
  ⟨6, [.i0 .i64 0, .i0 .i64 0, .i0 .i64 0, .i0 .i64 0, .i0 .i64 0, .i0 .i64 0], .arr 6 1 false⟩,
  ⟨0, [], .other⟩,
  ⟨23, [.i0 .i64 0, .i0 .i64 0, .i0 .i64 0, .i0 .i64 0, .i0 .i64 0, .i0 .i64 0, .i0 .i64 0, .i0 .i64 0, .i0 .i64 0, .i0 .i64 0, .i0 .i64 0, .i0 .i64 0, .i0 .i64 0, .i0 .i64 0, .i0 .i64 0, .i0 .i64 0, .i0 .i64 0, .i0 .i64 0, .i0 .i64 0, .i0 .i64 0, .i0 .i64 0, .i0 .i64 0, .i0 .i64 0], .st [(0, 1, false), (1, 1, false), (2, 1, false), (3, 1, false), (4, 1, false), (5, 1, false), (6, 1, false), (7, 1, false), (8, 1, false), (9, 1, false), (10, 1, false), (11, 1, false), (12, 1, false), (13, 1, false), (14, 1, false), (15, 6, true), (21, 1, false), (22, 1, false)]⟩,
  ⟨3, [.i0 .i64 0, .i0 .i64 0, .i0 .i64 0], .arr 3 1 false⟩,
  ⟨0, [], .other⟩,
  ⟨4, [.i0 .i64 0, .i0 .i64 0, .i0 .i64 0, .i0 .i64 0], .st [(0, 3, true), (3, 1, false)]⟩,
  ⟨0, [], .other⟩,
  ⟨1, [.i0 .i64 0], .int .i64⟩,
  ⟨0, [], .other⟩,
  ⟨0, [], .other⟩,
  ⟨0, [], .other⟩,
  ⟨0, [], .other⟩,
  ⟨0, [], .other⟩,
  ⟨0, [], .other⟩,
  ⟨0, [], .other⟩,
  ⟨1, [.sln], .sl 4 32 true [.i0 .i64 0, .i0 .i64 0, .i0 .i64 0, .i0 .i64 0]⟩,
  ⟨0, [], .other⟩,
  ⟨0, [], .other⟩,
  ⟨4, [.i0 .i64 0, .i0 .i64 0, .i0 .i64 0, .i0 .i64 0], .st [(0, 3, true), (3, 1, false)]⟩,
  ⟨0, [], .other⟩,
  ⟨0, [], .other⟩,
  ⟨0, [], .other⟩,
  ⟨0, [], .other⟩,
  ⟨20, [.i0 .i64 0, .i0 .i64 0, .i0 .i64 0, .i0 .i64 0, .i0 .i64 0, .i0 .i64 0, .i0 .i64 0, .i0 .i64 0, .i0 .i64 0, .i0 .i64 0, .i0 .i64 0, .i0 .i64 0, .i0 .i64 0, .i0 .i64 0, .i0 .i64 0, .i0 .i64 0, .i0 .i64 0, .i0 .i64 0, .i0 .i64 0, .i0 .i64 0], .arr 20 1 false⟩,
  ⟨0, [], .other⟩,
  ⟨21, [.b0 false, .i0 .i64 0, .i0 .i64 0, .i0 .i64 0, .i0 .i64 0, .i0 .i64 0, .i0 .i64 0, .i0 .i64 0, .i0 .i64 0, .i0 .i64 0, .i0 .i64 0, .i0 .i64 0, .i0 .i64 0, .i0 .i64 0, .i0 .i64 0, .i0 .i64 0, .i0 .i64 0, .i0 .i64 0, .i0 .i64 0, .i0 .i64 0, .i0 .i64 0], .st [(0, 1, false), (1, 20, true)]⟩,
  ⟨0, [], .other⟩,
  ⟨0, [], .other⟩,
  ⟨0, [], .other⟩,
  ⟨0, [], .other⟩,
  ⟨0, [], .other⟩,
  ⟨0, [], .other⟩,
  ⟨0, [], .other⟩,
  ⟨0, [], .other⟩,
  ⟨0, [], .other⟩,
  ⟨84, [.i0 .i64 0, .i0 .i64 0, .i0 .i64 0, .i0 .i64 0, .i0 .i64 0, .i0 .i64 0, .i0 .i64 0, .i0 .i64 0, .i0 .i64 0, .i0 .i64 0, .i0 .i64 0, .i0 .i64 0, .i0 .i64 0, .i0 .i64 0, .i0 .i64 0, .i0 .i64 0, .i0 .i64 0, .i0 .i64 0, .i0 .i64 0, .i0 .i64 0, .i0 .i64 0, .i0 .i64 0, .i0 .i64 0, .i0 .i64 0, .i0 .i64 0, .i0 .i64 0, .i0 .i64 0, .i0 .i64 0, .i0 .i64 0, .i0 .i64 0, .i0 .i64 0, .i0 .i64 0, .i0 .i64 0, .i0 .i64 0, .i0 .i64 0, .i0 .i64 0, .i0 .i64 0, .i0 .i64 0, .i0 .i64 0, .i0 .i64 0, .i0 .i64 0, .i0 .i64 0, .i0 .i64 0, .i0 .i64 0, .i0 .i64 0, .i0 .i64 0, .sln, .sln, .sln, .i0 .i64 0, .i0 .i64 0, .i0 .i64 0, .i0 .i64 0, .i0 .i64 0, .i0 .i64 0, .b0 false, .i0 .i64 0, .i0 .i64 0, .i0 .i64 0, .b0 false, .i0 .i64 0, .i0 .i64 0, .i0 .i64 0, .b0 false, .i0 .i64 0, .i0 .i64 0, .i0 .i64 0, .b0 false, .i0 .i64 0, .i0 .i64 0, .i0 .i64 0, .b0 false, .i0 .i64 0, .i0 .i64 0, .i0 .i64 0, .b0 false, .i0 .i64 0, .i0 .i64 0, .i0 .i64 0, .i0 .i64 0, .i0 .i64 0, .i0 .i64 0, .i0 .i64 0, .i0 .i64 0], .st [(0, 23, true), (23, 57, true), (80, 1, false), (81, 1, false), (82, 1, false), (83, 1, false)]⟩,
  ⟨1, [.fnn], .func⟩,
  ⟨1, [.sln], .sl 1 8 false [.fnn]⟩,
  ⟨0, [], .other⟩,
  ⟨0, [], .other⟩,
  ⟨0, [], .other⟩,
  ⟨0, [], .other⟩,
  ⟨0, [], .other⟩,
  ⟨0, [], .other⟩,
  ⟨0, [], .other⟩,
  ⟨0, [], .other⟩,
  ⟨0, [], .other⟩,
  ⟨0, [], .other⟩,
  ⟨0, [], .other⟩,
  ⟨0, [], .other⟩,
  ⟨0, [], .other⟩,
  ⟨4, [.i0 .i64 0, .i0 .i64 0, .i0 .i64 0, .i0 .i64 0], .arr 4 1 false⟩,
  ⟨0, [], .other⟩,
  ⟨0, [], .other⟩,
  ⟨0, [], .other⟩,
  ⟨1, [.sln], .sl 1 8 false [.i0 .i64 0]⟩,
  ⟨0, [], .other⟩,
  ⟨2, [.i0 .i64 0, .i0 .i64 0], .st [(0, 1, false), (1, 1, false)]⟩,
  ⟨0, [], .other⟩,
  ⟨0, [], .other⟩,
  ⟨0, [], .other⟩,
  ⟨0, [], .other⟩,
  ⟨0, [], .other⟩,
  ⟨0, [], .other⟩,
  ⟨0, [], .other⟩,
  ⟨0, [], .other⟩,
  ⟨0, [], .other⟩,
  ⟨0, [], .other⟩,
  ⟨0, [], .other⟩,
  ⟨0, [], .other⟩,
  ⟨0, [], .other⟩,
  ⟨0, [], .other⟩,
  ⟨1, [.i0 .i64 0], .int .i64⟩,
  ⟨0, [], .other⟩,
  ⟨4, [.i0 .i64 0, .i0 .i64 0, .i0 .i64 0, .i0 .i64 0], .st [(0, 1, false), (1, 3, true)]⟩,
  ⟨0, [], .other⟩,
  ⟨0, [], .other⟩,
  ⟨0, [], .other⟩,
  ⟨0, [], .other⟩,
  ⟨0, [], .other⟩,
  ⟨0, [], .other⟩,
  ⟨0, [], .other⟩,
  ⟨0, [], .other⟩,
  ⟨0, [], .other⟩,
  ⟨0, [], .other⟩,
  ⟨0, [], .other⟩,
  ⟨0, [], .other⟩,
  ⟨0, [], .other⟩,
  ⟨0, [], .other⟩,
  ⟨0, [], .other⟩,
  ⟨0, [], .other⟩,
  ⟨0, [], .other⟩,
  ⟨2, [.i0 .i64 0, .i0 .i64 0], .st [(0, 1, false), (1, 1, false)]⟩,
  ⟨0, [], .other⟩,
  ⟨0, [], .other⟩,
  ⟨6, [.i0 .i64 0, .b0 false, .i0 .i64 0, .i0 .i64 0, .b0 false, .i0 .i64 0], .st [(0, 4, true), (4, 1, false), (5, 1, false)]⟩,
  ⟨0, [], .other⟩,
  ⟨0, [], .other⟩,
  ⟨0, [], .other⟩,
  ⟨1, [.i0 .i64 0], .int .i64⟩,
  ⟨0, [], .other⟩,
  ⟨2, [.i0 .i64 0, .i0 .i64 0], .st [(0, 1, false), (1, 1, false)]⟩,
  ⟨0, [], .other⟩,
  ⟨0, [], .other⟩,
  ⟨0, [], .other⟩,
  ⟨23, [.i0 .i64 0, .i0 .i64 0, .i0 .i64 0, .i0 .i64 0, .i0 .i64 0, .i0 .i64 0, .i0 .i64 0, .i0 .i64 0, .i0 .i64 0, .i0 .i64 0, .i0 .i64 0, .i0 .i64 0, .i0 .i64 0, .i0 .i64 0, .i0 .i64 0, .i0 .i64 0, .i0 .i64 0, .i0 .i64 0, .i0 .i64 0, .i0 .i64 0, .i0 .i64 0, .i0 .i64 0, .i0 .i64 0], .st [(0, 23, true)]⟩,
  ⟨1, [.i0 .u64 0], .int .u64⟩,
  ⟨0, [], .other⟩,
  ⟨0, [], .other⟩,
  ⟨0, [], .other⟩,
  ⟨0, [], .other⟩,
  ⟨0, [], .other⟩,
  ⟨0, [], .other⟩,
  ⟨4, [.i0 .i64 0, .i0 .i64 0, .i0 .i64 0, .i0 .i64 0], .st [(0, 3, true), (3, 1, false)]⟩,
  ⟨0, [], .other⟩,
  ⟨0, [], .other⟩,
  ⟨0, [], .other⟩,
  ⟨2, [.i0 .i64 0, .i0 .i64 0], .st [(0, 1, false), (1, 1, false)]⟩,
  ⟨0, [], .other⟩,
  ⟨12, [.i0 .i64 0, .i0 .i64 0, .i0 .i64 0, .i0 .i64 0, .i0 .i64 0, .i0 .i64 0, .i0 .i64 0, .i0 .i64 0, .i0 .i64 0, .i0 .i64 0, .i0 .i64 0, .i0 .i64 0], .st [(0, 2, true), (2, 2, true), (4, 8, true)]⟩,
  ⟨0, [], .other⟩,
  ⟨0, [], .other⟩,
  ⟨3, [.i0 .i64 0, .i0 .i64 0, .i0 .i64 0], .st [(0, 1, false), (1, 1, false), (2, 1, false)]⟩,
  ⟨0, [], .other⟩,
  ⟨4, [.i0 .i64 0, .i0 .i64 0, .i0 .i64 0, .i0 .i64 0], .st [(0, 3, true), (3, 1, false)]⟩,
  ⟨0, [], .other⟩,
  ⟨23, [.i0 .i64 0, .i0 .i64 0, .i0 .i64 0, .i0 .i64 0, .i0 .i64 0, .i0 .i64 0, .i0 .i64 0, .i0 .i64 0, .i0 .i64 0, .i0 .i64 0, .i0 .i64 0, .i0 .i64 0, .i0 .i64 0, .i0 .i64 0, .i0 .i64 0, .i0 .i64 0, .i0 .i64 0, .i0 .i64 0, .i0 .i64 0, .i0 .i64 0, .i0 .i64 0, .i0 .i64 0, .i0 .i64 0], .st [(0, 23, true)]⟩,
  ⟨0, [], .other⟩,
  ⟨0, [], .other⟩,
  ⟨0, [], .other⟩,
  ⟨0, [], .other⟩,
  ⟨80, [.i0 .i64 0, .i0 .i64 0, .i0 .i64 0, .i0 .i64 0, .i0 .i64 0, .i0 .i64 0, .i0 .i64 0, .i0 .i64 0, .i0 .i64 0, .i0 .i64 0, .i0 .i64 0, .i0 .i64 0, .i0 .i64 0, .i0 .i64 0, .i0 .i64 0, .i0 .i64 0, .i0 .i64 0, .i0 .i64 0, .i0 .i64 0, .i0 .i64 0, .i0 .i64 0, .i0 .i64 0, .i0 .i64 0, .i0 .i64 0, .i0 .i64 0, .i0 .i64 0, .i0 .i64 0, .i0 .i64 0, .i0 .i64 0, .i0 .i64 0, .i0 .i64 0, .i0 .i64 0, .i0 .i64 0, .i0 .i64 0, .i0 .i64 0, .i0 .i64 0, .i0 .i64 0, .i0 .i64 0, .i0 .i64 0, .i0 .i64 0, .i0 .i64 0, .i0 .i64 0, .i0 .i64 0, .i0 .i64 0, .i0 .i64 0, .i0 .i64 0, .sln, .sln, .sln, .i0 .i64 0, .i0 .i64 0, .i0 .i64 0, .i0 .i64 0, .i0 .i64 0, .i0 .i64 0, .b0 false, .i0 .i64 0, .i0 .i64 0, .i0 .i64 0, .b0 false, .i0 .i64 0, .i0 .i64 0, .i0 .i64 0, .b0 false, .i0 .i64 0, .i0 .i64 0, .i0 .i64 0, .b0 false, .i0 .i64 0, .i0 .i64 0, .i0 .i64 0, .b0 false, .i0 .i64 0, .i0 .i64 0, .i0 .i64 0, .b0 false, .i0 .i64 0, .i0 .i64 0, .i0 .i64 0, .i0 .i64 0], .st [(0, 23, true), (23, 57, true)]⟩,
  ⟨0, [], .other⟩,
  ⟨1, [.sln], .sl 2 16 true [.i0 .i64 0, .i0 .i64 0]⟩,
  ⟨0, [], .other⟩,
  ⟨0, [], .other⟩,
  ⟨0, [], .other⟩,
  ⟨0, [], .other⟩,
  ⟨0, [], .other⟩,
  ⟨0, [], .other⟩,
  ⟨0, [], .other⟩,
  ⟨0, [], .other⟩,
  ⟨0, [], .other⟩,
  ⟨0, [], .other⟩,
  ⟨2, [.i0 .i64 0, .i0 .i64 0], .st [(0, 1, false), (1, 1, false)]⟩,
  ⟨0, [], .other⟩,
  ⟨0, [], .other⟩,
  ⟨0, [], .other⟩,
  ⟨0, [], .other⟩,
  ⟨1, [.i0 .u64 0], .int .u64⟩,
  ⟨0, [], .other⟩,
  ⟨2, [.i0 .i64 0, .i0 .u64 0], .st [(0, 1, false), (1, 1, false)]⟩,
  ⟨0, [], .other⟩,
  ⟨0, [], .other⟩,
  ⟨0, [], .other⟩,
  ⟨0, [], .other⟩,
  ⟨0, [], .other⟩,
  ⟨4, [.i0 .i64 0, .i0 .i64 0, .i0 .i64 0, .i0 .i64 0], .st [(0, 1, false), (1, 1, false), (2, 1, false), (3, 1, false)]⟩,
  ⟨0, [], .other⟩,
  ⟨5, [.i0 .i64 0, .i0 .i64 0, .i0 .i64 0, .i0 .i64 0, .sln], .st [(0, 4, true), (4, 1, false)]⟩,
  ⟨0, [], .other⟩,
  ⟨0, [], .other⟩,
  ⟨0, [], .other⟩,
  ⟨0, [], .other⟩,
  ⟨0, [], .other⟩,
  ⟨0, [], .other⟩,
  ⟨0, [], .other⟩,
  ⟨0, [], .other⟩,
  ⟨4, [.i0 .i64 0, .i0 .i64 0, .i0 .i64 0, .i0 .i64 0], .st [(0, 2, true), (2, 2, true)]⟩,
  ⟨0, [], .other⟩,
  ⟨0, [], .other⟩,
  ⟨0, [], .other⟩,
  ⟨0, [], .other⟩,
  ⟨0, [], .other⟩,
  ⟨0, [], .other⟩,
  ⟨0, [], .other⟩,
  ⟨0, [], .other⟩,
  ⟨0, [], .other⟩,
  ⟨0, [], .other⟩,
  ⟨0, [], .other⟩,
  ⟨0, [], .other⟩,
  ⟨0, [], .other⟩]
theorem tt_ok : tabB Tryz.prog 0 tt = true := by kernel_rfl
noncomputable def tab0 : List UInt8 := [0, 1, 2, 2, 3, 3, 3, 3, 4, 4, 4, 4, 4, 4, 4, 4, 5, 5, 5, 5, 5, 5, 5, 5, 5, 5, 5, 5, 5, 5, 5, 5, 6, 6, 6, 6, 6, 6, 6, 6, 6, 6, 6, 6, 6, 6, 6, 6, 6, 6, 6, 6, 6, 6, 6, 6, 6, 6, 6, 6, 6, 6, 6, 6, 7, 7, 7, 7, 7, 7, 7, 7, 7, 7, 7, 7, 7, 7, 7, 7, 7, 7, 7, 7, 7, 7, 7, 7, 7, 7, 7, 7, 7, 7, 7, 7, 7, 7, 7, 7, 7, 7, 7, 7, 7, 7, 7, 7, 7, 7, 7, 7, 7, 7, 7, 7, 7, 7, 7, 7, 7, 7, 7, 7, 7, 7, 7, 7, 8, 8, 8, 8, 8, 8, 8, 8, 8, 8, 8, 8, 8, 8, 8, 8, 8, 8, 8, 8, 8, 8, 8, 8, 8, 8, 8, 8, 8, 8, 8, 8, 8, 8, 8, 8, 8, 8, 8, 8, 8, 8, 8, 8, 8, 8, 8, 8, 8, 8, 8, 8, 8, 8, 8, 8, 8, 8, 8, 8, 8, 8, 8, 8, 8, 8, 8, 8, 8, 8, 8, 8, 8, 8, 8, 8, 8, 8, 8, 8, 8, 8, 8, 8, 8, 8, 8, 8, 8, 8, 8, 8, 8, 8, 8, 8, 8, 8, 8, 8, 8, 8, 8, 8, 8, 8, 8, 8, 8, 8, 8, 8, 8, 8, 8, 8, 8, 8, 8, 8, 8, 8, 8, 8, 8, 8, 8, 8]
noncomputable def eqs : List (Nat × List EK) := [(40, [.i .i64, .i .i64, .i .i64, .i .i64, .i .i64, .i .i64, .i .i64, .i .i64, .i .i64, .i .i64, .i .i64, .i .i64, .i .i64, .i .i64, .i .i64, .i .i64, .i .i64, .i .i64, .i .i64, .i .i64, .i .i64, .i .i64, .i .i64]), (61, [.i .i64, .i .i64, .i .i64, .i .i64, .i .i64, .i .i64, .i .i64, .i .i64, .i .i64, .i .i64, .i .i64, .i .i64, .i .i64, .i .i64, .i .i64, .i .i64, .i .i64, .i .i64, .i .i64, .i .i64])]
theorem eqs_ok : eqsB Tryz.prog eqs = true := by kernel_rfl
theorem draws {E : Env} (h : EnvT Tryz.prog E) : DrawOk Tryz.prog E := draw_ok (Checked.mixed Tryz.checked) h
noncomputable def Bs : Base Tryz.prog := ⟨tt, eqs, tt_ok, eqs_ok, draws⟩
/-! state_Default -/
noncomputable def state_Default_h : Sh := ⟨0, [], [], []⟩
noncomputable def state_Default_r : Sh := ⟨1, [(0, .ag [i6, i6, i6, i6, i6, i6, i6, i6, i6, i6, i6, i6, i6, i6, i6, i6, i6, i6, i6, i6, i6, i6, i6, .slf 0 0 1 3, .slf 1 0 1 2, .slf 2 0 1 6, i6, i6, i6, i6, i6, i6, .b, i6, i6, i6, .b, i6, i6, i6, .b, i6, i6, i6, .b, i6, i6, i6, .b, i6, i6, i6, .b, i6, i6, i6, i6])], [], [(true, false, [i6, i6, i6]), (true, false, [i6, i6]), (true, false, [i6, i6, i6, i6, i6, i6])]⟩
noncomputable def state_Default_g (K : Nat)  : Option (Int × Int × Int × Int × Int × Int × Int × Int × Int × Int × Int × Int × Int × Int × Int × Int × Int × Int × Int × Int × Int × Int × Int × Nat × Nat × Nat × Nat × Nat × Nat × Int × Int × Int × Int × Int × Int × Bool × Int × Int × Int × Bool × Int × Int × Int × Bool × Int × Int × Int × Bool × Int × Int × Int × Bool × Int × Int × Int × Bool × Int × Int × Int × Int × Int × Int × Int × Int × Int × Int × Int × Int × Int × Int × Int × Unit) :=
  (some (0, 1000, 1, 0, 1000, 1, 0, 1, 1, (-20000000), 20000000, 0, 5000000, (-40000), 90000, 50, 20, 30, 5000, 60000, 50000, 5000, 600000, 0, 3, 0, 2, 0, 6, 50, 10000000000, 1000000000, 20000000000, 2000, 0, true, 10000000, 500000, 0, false, (-15000000), 500000, 1, true, 4250000, 50000, 1, false, 2800000, 100000, 2, true, 60000, 5000, 3, false, 500, 300, 3, 100000000, 3000000, 3600000, 4200000, 0, 40000, 0, 200, 5000, 5200, 9800, 10000, ()))
noncomputable def state_Default_o (K : Nat) : FO := fnFO state_Default_h state_Default_r fun t => state_Default_g K
theorem state_Default_ok (K : Nat) : FOok Tryz.prog 27 (state_Default_o K) := fnE Bs [] [] [] trivial trivial 0 Tryz.func27 fun t => by kernel_rfl
/-! adc_raw_1 -/
noncomputable def adc_raw_1_h : Sh := ⟨1, [(0, .sc (i6))], [], []⟩
noncomputable def adc_raw_1_r : Sh := ⟨1, [(0, .sc (.b))], [], []⟩
noncomputable def adc_raw_1_g (K : Nat) (a0 : Int) : Option (Bool × Unit) :=
  (bif (decide (a0 < (-1048576))) then (some (true, ())) else (some ((decide (a0 > 1048576)), ())))
noncomputable def adc_raw_1_o (K : Nat) : FO := fnFO adc_raw_1_h adc_raw_1_r fun t => adc_raw_1_g K t.1
theorem adc_raw_1_ok (K : Nat) : FOok Tryz.prog 177 (adc_raw_1_o K) := fnE Bs [] [] [] trivial trivial 0 Tryz.func177 fun t => by kernel_rfl
/-! adc_raw -/
noncomputable def adc_raw_n (K : Nat) : List (FuncId × FO) := [(177, adc_raw_1_o K)]
theorem adc_raw_k (K : Nat) : fnsOk Tryz.prog (adc_raw_n K) := ⟨adc_raw_1_ok K, trivial⟩
noncomputable def adc_raw_i : List (FuncId × Func) := [(173, Tryz.f173), (197, Tryz.f197)]
theorem adc_raw_j : inlOk Tryz.prog adc_raw_i := ⟨⟨Tryz.func173, by kernel_rfl⟩, ⟨Tryz.func197, by kernel_rfl⟩, trivial⟩
noncomputable def adc_raw_l0h : Sh := ⟨19, [(0, .sc (.slr0 0)), (1, .sc (.lit (.fn 177 0 []))), (7, .sc (i6)), (8, .sc (i6))], [(9, []), (6, []), (0, [])], [(false, true, [r6])]⟩
noncomputable def adc_raw_l0x0 : Sh := ⟨19, [], [(9, []), (6, []), (0, [])], []⟩
noncomputable def adc_raw_l0x1 : Sh := ⟨19, [(4, .sc (i6))], [(9, []), (6, []), (0, [])], []⟩
noncomputable def adc_raw_l0r (K : Nat) (rec : Nat → Int → Int → (Nat → Int) → Option ((Unit) ⊕ (Int × Unit))) (n0 : Nat) (a1 a2 : Int) (m3 : (Nat → Int)) : Option ((Unit) ⊕ (Int × Unit)) :=
  (bif (decide (a2 < a1)) then (bif ((decide (0 ≤ a2)) && (decide (a2 < ((n0 : Nat) : Int)))) then ((adc_raw_1_g K (m3 (Int.toNat a2))).bind fun q1 => (bif q1.1 then (some (.inr (a2, ()))) else (rec n0 a1 (wi64 (a2 + 1)) m3))) else none) else (some (.inl (()))))
noncomputable def adc_raw_l0 (K n : Nat) := itN (fun _ _ _ _ => none) (adc_raw_l0r K) n
noncomputable def adc_raw_l0u (K n : Nat) (t : adc_raw_l0h.T) : Option ((Unit) ⊕ (Int × Unit)) :=
  adc_raw_l0 K n t.1 t.2.1 t.2.2.1 t.2.2.2.1
noncomputable def adc_raw_l0E (K : Nat) : LoopE Tryz.prog := lpE Bs (adc_raw_n K) adc_raw_i [] (adc_raw_k K) adc_raw_j 10 Tryz.func197 2 [2, 1, 173, 1, 1, 136] adc_raw_l0h (OutI.or (OutI.exit 0 adc_raw_l0x0) (OutI.ret adc_raw_l0x1)) (fun n t => adc_raw_l0u K n t) (fun _ => rfl) (fun n t => by kernel_rfl) K
noncomputable def adc_raw_h : Sh := ⟨1, [(0, .sc (.slr0 0))], [], [(false, true, [r6])]⟩
noncomputable def adc_raw_r : Sh := ⟨1, [(0, .sc (.b))], [], []⟩
noncomputable def adc_raw_g (K : Nat) (n0 : Nat) (m1 : (Nat → Int)) : Option (Bool × Unit) :=
  ((adc_raw_l0 K K n0 ((n0 : Nat) : Int) 0 m1).bind fun q1 => (Sum.elim (fun q2 => (some (true, ()))) (fun q3 => (some ((!(decide (q3.1 ≥ 0))), ()))) q1))
noncomputable def adc_raw_o (K : Nat) : FO := fnFO adc_raw_h adc_raw_r fun t => adc_raw_g K t.1 t.2.1
theorem adc_raw_ok (K : Nat) : FOok Tryz.prog 136 (adc_raw_o K) := fnE Bs (adc_raw_n K) adc_raw_i [adc_raw_l0E K] (adc_raw_k K) adc_raw_j 10 Tryz.func136 fun t => by kernel_rfl
/-! adc_Check -/
noncomputable def adc_Check_n (K : Nat) : List (FuncId × FO) := [(136, adc_raw_o K)]
theorem adc_Check_k (K : Nat) : fnsOk Tryz.prog (adc_Check_n K) := ⟨adc_raw_ok K, trivial⟩
noncomputable def adc_Check_h : Sh := ⟨1, [(0, .ag [i6, i6, i6])], [], []⟩
noncomputable def adc_Check_r : Sh := ⟨1, [(0, .sc (i6))], [], []⟩
noncomputable def adc_Check_g (K : Nat) (a0 a1 a2 : Int) : Option (Int × Unit) :=
  ((adc_raw_g K 3 (fun j => (selI [a0, a1, a2] j))).bind fun q1 => (bif (!q1.1) then (some (120, ())) else (bif (decide (a2 < 1)) then (some (120, ())) else (some (0, ())))))
noncomputable def adc_Check_o (K : Nat) : FO := fnFO adc_Check_h adc_Check_r fun t => adc_Check_g K t.1 t.2.1 t.2.2.1
theorem adc_Check_ok (K : Nat) : FOok Tryz.prog 113 (adc_Check_o K) := fnE Bs (adc_Check_n K) [] [] (adc_Check_k K) trivial 0 Tryz.func113 fun t => by kernel_rfl
/-! sample_Inside -/
noncomputable def sample_Inside_h : Sh := ⟨2, [(0, .ag [i6, i6]), (1, .sc (i6))], [], []⟩
noncomputable def sample_Inside_r : Sh := ⟨1, [(0, .sc (.b))], [], []⟩
noncomputable def sample_Inside_g (K : Nat) (a0 a1 a2 : Int) : Option (Bool × Unit) :=
  (bif (decide (a0 ≤ a2)) then (some ((decide (a2 ≤ a1)), ())) else (some (false, ())))
noncomputable def sample_Inside_o (K : Nat) : FO := fnFO sample_Inside_h sample_Inside_r fun t => sample_Inside_g K t.1 t.2.1 t.2.2.1
theorem sample_Inside_ok (K : Nat) : FOok Tryz.prog 81 (sample_Inside_o K) := fnE Bs [] [] [] trivial trivial 0 Tryz.func81 fun t => by kernel_rfl
/-! sample_all -/
noncomputable def sample_all_n (K : Nat) : List (FuncId × FO) := [(81, sample_Inside_o K)]
theorem sample_all_k (K : Nat) : fnsOk Tryz.prog (sample_all_n K) := ⟨sample_Inside_ok K, trivial⟩
noncomputable def sample_all_l0h : Sh := ⟨18, [(2, .sc (.lit (.p 0 0 0 []))), (7, .sc (.slr0 1)), (8, .sc (i6)), (9, .sc (i6))], [(0, [])], [(true, false, [i6, i6]), (false, true, [r6])]⟩
noncomputable def sample_all_l0x0 : Sh := ⟨18, [], [(0, [])], []⟩
noncomputable def sample_all_l0x1 : Sh := ⟨18, [(4, .sc (.b))], [(0, [])], []⟩
noncomputable def sample_all_l0r (K : Nat) (rec : Nat → Int → Int → Int → Int → (Nat → Int) → Option ((Unit) ⊕ (Bool × Unit))) (n0 : Nat) (a1 a2 a3 a4 : Int) (m5 : (Nat → Int)) : Option ((Unit) ⊕ (Bool × Unit)) :=
  (bif (decide (a2 < a1)) then (bif ((decide (0 ≤ a2)) && (decide (a2 < ((n0 : Nat) : Int)))) then ((sample_Inside_g K a3 a4 (m5 (Int.toNat a2))).bind fun q1 => (bif (!q1.1) then (some (.inr (false, ()))) else (rec n0 a1 (wi64 (a2 + 1)) a3 a4 m5))) else none) else (some (.inl (()))))
noncomputable def sample_all_l0 (K n : Nat) := itN (fun _ _ _ _ _ _ => none) (sample_all_l0r K) n
noncomputable def sample_all_l0u (K n : Nat) (t : sample_all_l0h.T) : Option ((Unit) ⊕ (Bool × Unit)) :=
  sample_all_l0 K n t.1 t.2.1 t.2.2.1 t.2.2.2.1 t.2.2.2.2.1 t.2.2.2.2.2.1
noncomputable def sample_all_l0E (K : Nat) : LoopE Tryz.prog := lpE Bs (sample_all_n K) [] [] (sample_all_k K) trivial 0 Tryz.func114 2 [] sample_all_l0h (OutI.or (OutI.exit 0 sample_all_l0x0) (OutI.ret sample_all_l0x1)) (fun n t => sample_all_l0u K n t) (fun _ => rfl) (fun n t => by kernel_rfl) K
noncomputable def sample_all_h : Sh := ⟨2, [(0, .ag [i6, i6]), (1, .sc (.slr0 0))], [], [(false, true, [r6])]⟩
noncomputable def sample_all_r : Sh := ⟨1, [(0, .sc (.b))], [], []⟩
noncomputable def sample_all_g (K : Nat) (a0 a1 : Int) (n2 : Nat) (m3 : (Nat → Int)) : Option (Bool × Unit) :=
  ((sample_all_l0 K K n2 ((n2 : Nat) : Int) 0 a0 a1 m3).bind fun q1 => (Sum.elim (fun q2 => (some (true, ()))) (fun q3 => (some (q3.1, ()))) q1))
noncomputable def sample_all_gu (K : Nat) (t : sample_all_h.T) : Option (Bool × Unit) :=
  sample_all_g K t.1 t.2.1 t.2.2.1 t.2.2.2.1
noncomputable def sample_all_o (K : Nat) : FO := fnFO sample_all_h sample_all_r fun t => sample_all_gu K t
theorem sample_all_ok (K : Nat) : FOok Tryz.prog 114 (sample_all_o K) := fnE Bs (sample_all_n K) [] [sample_all_l0E K] (sample_all_k K) trivial 0 Tryz.func114 fun t => by kernel_rfl
/-! sample_Check -/
noncomputable def sample_Check_n (K : Nat) : List (FuncId × FO) := [(113, adc_Check_o K), (114, sample_all_o K)]
theorem sample_Check_k (K : Nat) : fnsOk Tryz.prog (sample_Check_n K) := ⟨adc_Check_ok K, sample_all_ok K, trivial⟩
noncomputable def sample_Check_l0h : Sh := ⟨38, [(2, .sc (.lit (.p 0 0 0 []))), (5, .sc (.lit (.p 1 0 0 []))), (10, .ag [i6, i6, i6, i6, i6, i6]), (11, .sc (i6))], [(0, [])], [(true, false, [i6, i6, i6, i6, i6, i6, i6, i6, i6]), (true, false, [i6, i6])]⟩
noncomputable def sample_Check_l0x0 : Sh := ⟨38, [], [(0, [])], []⟩
noncomputable def sample_Check_l0x1 : Sh := ⟨38, [(4, .sc (i6))], [(0, [])], []⟩
noncomputable def sample_Check_l0r (K : Nat) (rec : Int → Int → Int → Int → Int → Int → Int → Int → Int → Int → Int → Int → Int → Int → Int → Int → Int → Int → Option ((Unit) ⊕ (Int × Unit))) (a0 a1 a2 a3 a4 a5 a6 a7 a8 a9 a10 a11 a12 a13 a14 a15 a16 a17 : Int) : Option ((Unit) ⊕ (Int × Unit)) :=
  (bif (decide (a6 < 3)) then (bif ((decide (0 ≤ a6)) && (decide (a6 < 3))) then (bif ((decide (0 ≤ a6)) && (decide (a6 < 3))) then ((adc_Check_g K (selI [a7, a10, a13] (Int.toNat a6)) (selI [a8, a11, a14] (Int.toNat a6)) (selI [a9, a12, a15] (Int.toNat a6))).bind fun q1 => (bif (q1.1 != 0) then (some (.inr (q1.1, ()))) else (bif (decide ((selI [a0, a2, a4] (Int.toNat a6)) > (selI [a1, a3, a5] (Int.toNat a6)))) then (some (.inr (120, ()))) else ((sample_all_g K a16 a17 2 (fun j => (selI [(selI [a0, a2, a4] (Int.toNat a6)), (selI [a1, a3, a5] (Int.toNat a6))] j))).bind fun q2 => (bif (!q2.1) then (some (.inr (120, ()))) else (rec a0 a1 a2 a3 a4 a5 (wi64 (a6 + 1)) a7 a8 a9 a10 a11 a12 a13 a14 a15 a16 a17)))))) else none) else none) else (some (.inl (()))))
noncomputable def sample_Check_l0 (K n : Nat) := itN (fun _ _ _ _ _ _ _ _ _ _ _ _ _ _ _ _ _ _ => none) (sample_Check_l0r K) n
noncomputable def sample_Check_l0u (K n : Nat) (t : sample_Check_l0h.T) : Option ((Unit) ⊕ (Int × Unit)) :=
  let u1 := t.2
  let u2 := u1.2
  let u3 := u2.2
  let u4 := u3.2
  let u5 := u4.2
  let u6 := u5.2
  let u7 := u6.2
  let u8 := u7.2
  let u9 := u8.2
  let u10 := u9.2
  let u11 := u10.2
  let u12 := u11.2
  let u13 := u12.2
  let u14 := u13.2
  let u15 := u14.2
  let u16 := u15.2
  let u17 := u16.2
  sample_Check_l0 K n t.1 u1.1 u2.1 u3.1 u4.1 u5.1 u6.1 u7.1 u8.1 u9.1 u10.1 u11.1 u12.1 u13.1 u14.1 u15.1 u16.1 u17.1
noncomputable def sample_Check_l0E (K : Nat) : LoopE Tryz.prog := lpE Bs (sample_Check_n K) [] [] (sample_Check_k K) trivial 0 Tryz.func48 3 [] sample_Check_l0h (OutI.or (OutI.exit 0 sample_Check_l0x0) (OutI.ret sample_Check_l0x1)) (fun n t => sample_Check_l0u K n t) (fun _ => rfl) (fun n t => by kernel_rfl) K
noncomputable def sample_Check_h : Sh := ⟨2, [(0, .ag [i6, i6, i6, i6, i6, i6, i6, i6, i6]), (1, .ag [i6, i6, i6, i6, i6, i6])], [], []⟩
noncomputable def sample_Check_r : Sh := ⟨1, [(0, .sc (i6))], [], []⟩
noncomputable def sample_Check_g (K : Nat) (a0 a1 a2 a3 a4 a5 a6 a7 a8 a9 a10 a11 a12 a13 a14 : Int) : Option (Int × Unit) :=
  ((sample_Check_l0 K K a9 a10 a11 a12 a13 a14 0 a0 a1 a2 a3 a4 a5 a6 a7 a8 (-2147483648) 2147483648).bind fun q1 => (Sum.elim (fun q2 => (some (0, ()))) (fun q3 => (some (q3.1, ()))) q1))
noncomputable def sample_Check_gu (K : Nat) (t : sample_Check_h.T) : Option (Int × Unit) :=
  let u1 := t.2
  let u2 := u1.2
  let u3 := u2.2
  let u4 := u3.2
  let u5 := u4.2
  let u6 := u5.2
  let u7 := u6.2
  let u8 := u7.2
  let u9 := u8.2
  let u10 := u9.2
  let u11 := u10.2
  let u12 := u11.2
  let u13 := u12.2
  let u14 := u13.2
  sample_Check_g K t.1 u1.1 u2.1 u3.1 u4.1 u5.1 u6.1 u7.1 u8.1 u9.1 u10.1 u11.1 u12.1 u13.1 u14.1
noncomputable def sample_Check_o (K : Nat) : FO := fnFO sample_Check_h sample_Check_r fun t => sample_Check_gu K t
theorem sample_Check_ok (K : Nat) : FOok Tryz.prog 48 (sample_Check_o K) := fnE Bs (sample_Check_n K) [] [sample_Check_l0E K] (sample_Check_k K) trivial 0 Tryz.func48 fun t => by kernel_rfl
/-! model_resistors -/
noncomputable def model_resistors_h : Sh := ⟨0, [], [], []⟩
noncomputable def model_resistors_r : Sh := ⟨1, [(0, .ag [i6, i6])], [], []⟩
noncomputable def model_resistors_g (K : Nat)  : Option (Int × Int × Unit) :=
  (some (0, 1000000, ()))
noncomputable def model_resistors_o (K : Nat) : FO := fnFO model_resistors_h model_resistors_r fun t => model_resistors_g K
theorem model_resistors_ok (K : Nat) : FOok Tryz.prog 115 (model_resistors_o K) := fnE Bs [] [] [] trivial trivial 0 Tryz.func115 fun t => by kernel_rfl
/-! model_span_has -/
noncomputable def model_span_has_l0h : Sh := ⟨24, [(2, .sc (.lit (.p 0 0 0 []))), (7, .sc (.slr0 1)), (8, .sc (i6)), (9, .sc (i6))], [(0, [])], [(true, false, [i6, i6]), (false, true, [r6])]⟩
noncomputable def model_span_has_l0x0 : Sh := ⟨24, [], [(0, [])], []⟩
noncomputable def model_span_has_l0x1 : Sh := ⟨24, [(4, .sc (.b))], [(0, [])], []⟩
noncomputable def model_span_has_l0r (K : Nat) (rec : Nat → Int → Int → Int → Int → (Nat → Int) → Option ((Unit) ⊕ (Bool × Unit))) (n0 : Nat) (a1 a2 a3 a4 : Int) (m5 : (Nat → Int)) : Option ((Unit) ⊕ (Bool × Unit)) :=
  (bif (decide (a2 < a1)) then (bif ((decide (0 ≤ a2)) && (decide (a2 < ((n0 : Nat) : Int)))) then (bif (decide ((m5 (Int.toNat a2)) < a3)) then (some (.inr (false, ()))) else (bif (decide ((m5 (Int.toNat a2)) > a4)) then (some (.inr (false, ()))) else (rec n0 a1 (wi64 (a2 + 1)) a3 a4 m5))) else none) else (some (.inl (()))))
noncomputable def model_span_has_l0 (K n : Nat) := itN (fun _ _ _ _ _ _ => none) (model_span_has_l0r K) n
noncomputable def model_span_has_l0u (K n : Nat) (t : model_span_has_l0h.T) : Option ((Unit) ⊕ (Bool × Unit)) :=
  model_span_has_l0 K n t.1 t.2.1 t.2.2.1 t.2.2.2.1 t.2.2.2.2.1 t.2.2.2.2.2.1
noncomputable def model_span_has_l0E (K : Nat) : LoopE Tryz.prog := lpE Bs [] [] [] trivial trivial 0 Tryz.func116 2 [] model_span_has_l0h (OutI.or (OutI.exit 0 model_span_has_l0x0) (OutI.ret model_span_has_l0x1)) (fun n t => model_span_has_l0u K n t) (fun _ => rfl) (fun n t => by kernel_rfl) K
noncomputable def model_span_has_h : Sh := ⟨2, [(0, .ag [i6, i6]), (1, .sc (.slr0 0))], [], [(false, true, [r6])]⟩
noncomputable def model_span_has_r : Sh := ⟨1, [(0, .sc (.b))], [], []⟩
noncomputable def model_span_has_g (K : Nat) (a0 a1 : Int) (n2 : Nat) (m3 : (Nat → Int)) : Option (Bool × Unit) :=
  ((model_span_has_l0 K K n2 ((n2 : Nat) : Int) 0 a0 a1 m3).bind fun q1 => (Sum.elim (fun q2 => (some (true, ()))) (fun q3 => (some (q3.1, ()))) q1))
noncomputable def model_span_has_gu (K : Nat) (t : model_span_has_h.T) : Option (Bool × Unit) :=
  model_span_has_g K t.1 t.2.1 t.2.2.1 t.2.2.2.1
noncomputable def model_span_has_o (K : Nat) : FO := fnFO model_span_has_h model_span_has_r fun t => model_span_has_gu K t
theorem model_span_has_ok (K : Nat) : FOok Tryz.prog 116 (model_span_has_o K) := fnE Bs [] [] [model_span_has_l0E K] trivial trivial 0 Tryz.func116 fun t => by kernel_rfl
/-! model_taus -/
noncomputable def model_taus_h : Sh := ⟨0, [], [], []⟩
noncomputable def model_taus_r : Sh := ⟨1, [(0, .ag [i6, i6])], [], []⟩
noncomputable def model_taus_g (K : Nat)  : Option (Int × Int × Unit) :=
  (some (1, 1000000000, ()))
noncomputable def model_taus_o (K : Nat) : FO := fnFO model_taus_h model_taus_r fun t => model_taus_g K
theorem model_taus_ok (K : Nat) : FOok Tryz.prog 117 (model_taus_o K) := fnE Bs [] [] [] trivial trivial 0 Tryz.func117 fun t => by kernel_rfl
/-! model_Check -/
noncomputable def model_Check_n (K : Nat) : List (FuncId × FO) := [(115, model_resistors_o K), (116, model_span_has_o K), (117, model_taus_o K)]
theorem model_Check_k (K : Nat) : fnsOk Tryz.prog (model_Check_n K) := ⟨model_resistors_ok K, model_span_has_ok K, model_taus_ok K, trivial⟩
noncomputable def model_Check_h : Sh := ⟨1, [(0, .ag [i6, i6, i6, i6, i6, i6, i6, i6])], [], []⟩
noncomputable def model_Check_r : Sh := ⟨1, [(0, .sc (i6))], [], []⟩
noncomputable def model_Check_g (K : Nat) (a0 a1 a2 a3 a4 a5 a6 a7 : Int) : Option (Int × Unit) :=
  ((model_resistors_g K).bind fun q1 => ((model_span_has_g K q1.1 q1.2.1 3 (fun j => (selI [a0, a1, a2] j))).bind fun q2 => (bif (!q2.1) then (some (2, ())) else ((model_taus_g K).bind fun q3 => ((model_span_has_g K q3.1 q3.2.1 3 (fun j => (selI [a3, a4, a7] j))).bind fun q4 => (bif (!q4.1) then (some (2, ())) else ((model_span_has_g K 0 2147483648 2 (fun j => (selI [a5, a6] j))).bind fun q5 => (bif (!q5.1) then (some (2, ())) else (some (0, ()))))))))))
noncomputable def model_Check_gu (K : Nat) (t : model_Check_h.T) : Option (Int × Unit) :=
  let u1 := t.2
  let u2 := u1.2
  let u3 := u2.2
  let u4 := u3.2
  let u5 := u4.2
  let u6 := u5.2
  let u7 := u6.2
  model_Check_g K t.1 u1.1 u2.1 u3.1 u4.1 u5.1 u6.1 u7.1
noncomputable def model_Check_o (K : Nat) : FO := fnFO model_Check_h model_Check_r fun t => model_Check_gu K t
theorem model_Check_ok (K : Nat) : FOok Tryz.prog 49 (model_Check_o K) := fnE Bs (model_Check_n K) [] [] (model_Check_k K) trivial 0 Tryz.func49 fun t => by kernel_rfl
/-! grid_within_1 -/
noncomputable def grid_within_1_h : Sh := ⟨1, [(0, .sc (i6))], [], []⟩
noncomputable def grid_within_1_r : Sh := ⟨1, [(0, .sc (.b))], [], []⟩
noncomputable def grid_within_1_g (K : Nat) (a0 : Int) : Option (Bool × Unit) :=
  (bif (decide (a0 < (-2147483648))) then (some (true, ())) else (some ((decide (a0 > 2147483648)), ())))
noncomputable def grid_within_1_o (K : Nat) : FO := fnFO grid_within_1_h grid_within_1_r fun t => grid_within_1_g K t.1
theorem grid_within_1_ok (K : Nat) : FOok Tryz.prog 174 (grid_within_1_o K) := fnE Bs [] [] [] trivial trivial 0 Tryz.func174 fun t => by kernel_rfl
/-! grid_within -/
noncomputable def grid_within_n (K : Nat) : List (FuncId × FO) := [(174, grid_within_1_o K)]
theorem grid_within_k (K : Nat) : fnsOk Tryz.prog (grid_within_n K) := ⟨grid_within_1_ok K, trivial⟩
noncomputable def grid_within_i : List (FuncId × Func) := [(173, Tryz.f173), (197, Tryz.f197)]
theorem grid_within_j : inlOk Tryz.prog grid_within_i := ⟨⟨Tryz.func173, by kernel_rfl⟩, ⟨Tryz.func197, by kernel_rfl⟩, trivial⟩
noncomputable def grid_within_l0h : Sh := ⟨19, [(0, .sc (.slr0 0)), (1, .sc (.lit (.fn 174 0 []))), (7, .sc (i6)), (8, .sc (i6))], [(9, []), (6, []), (0, [])], [(false, true, [r6])]⟩
noncomputable def grid_within_l0x0 : Sh := ⟨19, [], [(9, []), (6, []), (0, [])], []⟩
noncomputable def grid_within_l0x1 : Sh := ⟨19, [(4, .sc (i6))], [(9, []), (6, []), (0, [])], []⟩
noncomputable def grid_within_l0r (K : Nat) (rec : Nat → Int → Int → (Nat → Int) → Option ((Unit) ⊕ (Int × Unit))) (n0 : Nat) (a1 a2 : Int) (m3 : (Nat → Int)) : Option ((Unit) ⊕ (Int × Unit)) :=
  (bif (decide (a2 < a1)) then (bif ((decide (0 ≤ a2)) && (decide (a2 < ((n0 : Nat) : Int)))) then ((grid_within_1_g K (m3 (Int.toNat a2))).bind fun q1 => (bif q1.1 then (some (.inr (a2, ()))) else (rec n0 a1 (wi64 (a2 + 1)) m3))) else none) else (some (.inl (()))))
noncomputable def grid_within_l0 (K n : Nat) := itN (fun _ _ _ _ => none) (grid_within_l0r K) n
noncomputable def grid_within_l0u (K n : Nat) (t : grid_within_l0h.T) : Option ((Unit) ⊕ (Int × Unit)) :=
  grid_within_l0 K n t.1 t.2.1 t.2.2.1 t.2.2.2.1
noncomputable def grid_within_l0E (K : Nat) : LoopE Tryz.prog := lpE Bs (grid_within_n K) grid_within_i [] (grid_within_k K) grid_within_j 10 Tryz.func197 2 [2, 1, 173, 1, 1, 119] grid_within_l0h (OutI.or (OutI.exit 0 grid_within_l0x0) (OutI.ret grid_within_l0x1)) (fun n t => grid_within_l0u K n t) (fun _ => rfl) (fun n t => by kernel_rfl) K
noncomputable def grid_within_h : Sh := ⟨1, [(0, .sc (.slr0 0))], [], [(false, true, [r6])]⟩
noncomputable def grid_within_r : Sh := ⟨1, [(0, .sc (.b))], [], []⟩
noncomputable def grid_within_g (K : Nat) (n0 : Nat) (m1 : (Nat → Int)) : Option (Bool × Unit) :=
  ((grid_within_l0 K K n0 ((n0 : Nat) : Int) 0 m1).bind fun q1 => (Sum.elim (fun q2 => (some (true, ()))) (fun q3 => (some ((!(decide (q3.1 ≥ 0))), ()))) q1))
noncomputable def grid_within_o (K : Nat) : FO := fnFO grid_within_h grid_within_r fun t => grid_within_g K t.1 t.2.1
theorem grid_within_ok (K : Nat) : FOok Tryz.prog 119 (grid_within_o K) := fnE Bs (grid_within_n K) grid_within_i [grid_within_l0E K] (grid_within_k K) grid_within_j 10 Tryz.func119 fun t => by kernel_rfl
/-! grid_rising -/
noncomputable def grid_rising_n (K : Nat) : List (FuncId × FO) := [(119, grid_within_o K)]
theorem grid_rising_k (K : Nat) : fnsOk Tryz.prog (grid_rising_n K) := ⟨grid_within_ok K, trivial⟩
noncomputable def grid_rising_l0h : Sh := ⟨26, [(0, .sc (.slr0 0)), (5, .sc (.slr0 0)), (6, .sc (i6)), (7, .sc (i6))], [(0, [])], [(false, true, [r6])]⟩
noncomputable def grid_rising_l0x0 : Sh := ⟨26, [(0, .sc (.slr0 0))], [(0, [])], [(false, true, [r6])]⟩
noncomputable def grid_rising_l0x1 : Sh := ⟨26, [(2, .sc (.b))], [(0, [])], []⟩
noncomputable def grid_rising_l0r (K : Nat) (rec : Nat → Nat → Int → Int → (Nat → Int) → Option ((Nat × (Nat → Int) × Unit) ⊕ (Bool × Unit))) (n0 n1 : Nat) (a2 a3 : Int) (m4 : (Nat → Int)) : Option ((Nat × (Nat → Int) × Unit) ⊕ (Bool × Unit)) :=
  (bif (decide (a3 < a2)) then (bif ((decide (0 ≤ a3)) && (decide (a3 < ((n1 : Nat) : Int)))) then (bif (decide (a3 > 0)) then (bif ((decide (0 ≤ (wi64 (a3 - 1)))) && (decide ((wi64 (a3 - 1)) < ((n0 : Nat) : Int)))) then (bif (decide ((m4 (Int.toNat a3)) ≤ (m4 (Int.toNat (wi64 (a3 - 1)))))) then (some (.inr (false, ()))) else (rec n0 n1 a2 (wi64 (a3 + 1)) m4)) else none) else (rec n0 n1 a2 (wi64 (a3 + 1)) m4)) else none) else (some (.inl (n0, m4, ()))))
noncomputable def grid_rising_l0 (K n : Nat) := itN (fun _ _ _ _ _ => none) (grid_rising_l0r K) n
noncomputable def grid_rising_l0u (K n : Nat) (t : grid_rising_l0h.T) : Option ((Nat × (Nat → Int) × Unit) ⊕ (Bool × Unit)) :=
  grid_rising_l0 K n t.1 t.2.1 t.2.2.1 t.2.2.2.1 t.2.2.2.2.1
noncomputable def grid_rising_l0E (K : Nat) : LoopE Tryz.prog := lpE Bs (grid_rising_n K) [] [] (grid_rising_k K) trivial 0 Tryz.func118 2 [] grid_rising_l0h (OutI.or (OutI.exit 0 grid_rising_l0x0) (OutI.ret grid_rising_l0x1)) (fun n t => grid_rising_l0u K n t) (fun _ => rfl) (fun n t => by kernel_rfl) K
noncomputable def grid_rising_h : Sh := ⟨1, [(0, .sc (.slr0 0))], [], [(false, true, [r6])]⟩
noncomputable def grid_rising_r : Sh := ⟨1, [(0, .sc (.b))], [], []⟩
noncomputable def grid_rising_g (K : Nat) (n0 : Nat) (m1 : (Nat → Int)) : Option (Bool × Unit) :=
  ((grid_rising_l0 K K n0 n0 ((n0 : Nat) : Int) 0 m1).bind fun q1 => (Sum.elim (fun q2 => ((grid_within_g K q2.1 q2.2.1).bind fun q4 => (some (q4.1, ())))) (fun q3 => (some (q3.1, ()))) q1))
noncomputable def grid_rising_o (K : Nat) : FO := fnFO grid_rising_h grid_rising_r fun t => grid_rising_g K t.1 t.2.1
theorem grid_rising_ok (K : Nat) : FOok Tryz.prog 118 (grid_rising_o K) := fnE Bs (grid_rising_n K) [] [grid_rising_l0E K] (grid_rising_k K) trivial 0 Tryz.func118 fun t => by kernel_rfl
/-! grid_Check -/
noncomputable def grid_Check_n (K : Nat) : List (FuncId × FO) := [(118, grid_rising_o K), (119, grid_within_o K)]
theorem grid_Check_k (K : Nat) : fnsOk Tryz.prog (grid_Check_n K) := ⟨grid_rising_ok K, grid_within_ok K, trivial⟩
noncomputable def grid_Check_h : Sh := ⟨1, [(0, .ag [.slr0 0, .slr0 1, .slr0 2])], [], [(false, true, [r6]), (false, true, [r6]), (false, true, [r6])]⟩
noncomputable def grid_Check_r : Sh := ⟨1, [(0, .sc (i6))], [], []⟩
noncomputable def grid_Check_g (K : Nat) (n0 n1 n2 : Nat) (m3 m4 m5 : (Nat → Int)) : Option (Int × Unit) :=
  (bif (decide (((n0 : Nat) : Int) < 2)) then (some (110, ())) else (bif (decide (((n0 : Nat) : Int) > 256)) then (some (110, ())) else (bif (decide (((n1 : Nat) : Int) < 1)) then (some (110, ())) else (bif (decide (((n1 : Nat) : Int) > 256)) then (some (110, ())) else (bif (decide ((wi64 (((n0 : Nat) : Int) * ((n1 : Nat) : Int))) > 4096)) then (some (110, ())) else (bif (((n2 : Nat) : Int) != (wi64 (((n0 : Nat) : Int) * ((n1 : Nat) : Int)))) then (some (110, ())) else ((grid_rising_g K n0 m3).bind fun q1 => (bif (!q1.1) then (some (110, ())) else ((grid_rising_g K n1 m4).bind fun q2 => (bif (!q2.1) then (some (110, ())) else ((grid_within_g K n2 m5).bind fun q3 => (bif (!q3.1) then (some (110, ())) else (some (0, ()))))))))))))))
noncomputable def grid_Check_gu (K : Nat) (t : grid_Check_h.T) : Option (Int × Unit) :=
  grid_Check_g K t.1 t.2.1 t.2.2.1 t.2.2.2.1 t.2.2.2.2.1 t.2.2.2.2.2.1
noncomputable def grid_Check_o (K : Nat) : FO := fnFO grid_Check_h grid_Check_r fun t => grid_Check_gu K t
theorem grid_Check_ok (K : Nat) : FOok Tryz.prog 50 (grid_Check_o K) := fnE Bs (grid_Check_n K) [] [] (grid_Check_k K) trivial 0 Tryz.func50 fun t => by kernel_rfl
/-! health_within -/
noncomputable def health_within_h : Sh := ⟨3, [(0, .sc (i6)), (1, .sc (i6)), (2, .sc (i6))], [], []⟩
noncomputable def health_within_r : Sh := ⟨1, [(0, .sc (.b))], [], []⟩
noncomputable def health_within_g (K : Nat) (a0 a1 a2 : Int) : Option (Bool × Unit) :=
  (bif (decide (a0 ≤ a2)) then (some ((decide (a2 ≤ a1)), ())) else (some (false, ())))
noncomputable def health_within_o (K : Nat) : FO := fnFO health_within_h health_within_r fun t => health_within_g K t.1 t.2.1 t.2.2.1
theorem health_within_ok (K : Nat) : FOok Tryz.prog 120 (health_within_o K) := fnE Bs [] [] [] trivial trivial 0 Tryz.func120 fun t => by kernel_rfl
/-! health_Check -/
noncomputable def health_Check_n (K : Nat) : List (FuncId × FO) := [(120, health_within_o K)]
theorem health_Check_k (K : Nat) : fnsOk Tryz.prog (health_Check_n K) := ⟨health_within_ok K, trivial⟩
noncomputable def health_Check_h : Sh := ⟨1, [(0, .ag [i6, i6, i6, i6, i6, i6, i6, i6, i6, i6, i6, i6, i6, i6, i6, i6, i6, i6, i6, i6, i6, i6, i6, .slr0 0, .slr0 1, .slr0 2, i6, i6, i6, i6, i6, i6, .b, i6, i6, i6, .b, i6, i6, i6, .b, i6, i6, i6, .b, i6, i6, i6, .b, i6, i6, i6, .b, i6, i6, i6, i6])], [], [(false, true, [r6]), (false, true, [r6]), (false, true, [r6])]⟩
noncomputable def health_Check_r : Sh := ⟨1, [(0, .sc (i6))], [], []⟩
noncomputable def health_Check_g (K : Nat) (a0 a1 a2 a3 a4 a5 a6 a7 a8 a9 a10 a11 a12 a13 a14 a15 a16 a17 a18 a19 a20 a21 a22 : Int) (n23 n24 n25 : Nat) (a26 a27 a28 a29 a30 a31 : Int) (b32 : Bool) (a33 a34 a35 : Int) (b36 : Bool) (a37 a38 a39 : Int) (b40 : Bool) (a41 a42 a43 : Int) (b44 : Bool) (a45 a46 a47 : Int) (b48 : Bool) (a49 a50 a51 : Int) (b52 : Bool) (a53 a54 a55 a56 : Int) (m57 m58 m59 : (Nat → Int)) : Option (Int × Unit) :=
  ((health_within_g K 1 10000 a30).bind fun q1 => (bif (!q1.1) then (some (2, ())) else ((health_within_g K 1 a29 a28).bind fun q2 => (bif (!q2.1) then (some (2, ())) else (bif (decide (a29 > 1125899906842624)) then (some (2, ())) else ((health_within_g K a28 a29 a27).bind fun q3 => (bif (!q3.1) then (some (2, ())) else (some (0, ())))))))))
noncomputable def health_Check_gu (K : Nat) (t : health_Check_h.T) : Option (Int × Unit) :=
  let u1 := t.2
  let u2 := u1.2
  let u3 := u2.2
  let u4 := u3.2
  let u5 := u4.2
  let u6 := u5.2
  let u7 := u6.2
  let u8 := u7.2
  let u9 := u8.2
  let u10 := u9.2
  let u11 := u10.2
  let u12 := u11.2
  let u13 := u12.2
  let u14 := u13.2
  let u15 := u14.2
  let u16 := u15.2
  let u17 := u16.2
  let u18 := u17.2
  let u19 := u18.2
  let u20 := u19.2
  let u21 := u20.2
  let u22 := u21.2
  let u23 := u22.2
  let u24 := u23.2
  let u25 := u24.2
  let u26 := u25.2
  let u27 := u26.2
  let u28 := u27.2
  let u29 := u28.2
  let u30 := u29.2
  let u31 := u30.2
  let u32 := u31.2
  let u33 := u32.2
  let u34 := u33.2
  let u35 := u34.2
  let u36 := u35.2
  let u37 := u36.2
  let u38 := u37.2
  let u39 := u38.2
  let u40 := u39.2
  let u41 := u40.2
  let u42 := u41.2
  let u43 := u42.2
  let u44 := u43.2
  let u45 := u44.2
  let u46 := u45.2
  let u47 := u46.2
  let u48 := u47.2
  let u49 := u48.2
  let u50 := u49.2
  let u51 := u50.2
  let u52 := u51.2
  let u53 := u52.2
  let u54 := u53.2
  let u55 := u54.2
  let u56 := u55.2
  let u57 := u56.2
  let u58 := u57.2
  let u59 := u58.2
  health_Check_g K t.1 u1.1 u2.1 u3.1 u4.1 u5.1 u6.1 u7.1 u8.1 u9.1 u10.1 u11.1 u12.1 u13.1 u14.1 u15.1 u16.1 u17.1 u18.1 u19.1 u20.1 u21.1 u22.1 u23.1 u24.1 u25.1 u26.1 u27.1 u28.1 u29.1 u30.1 u31.1 u32.1 u33.1 u34.1 u35.1 u36.1 u37.1 u38.1 u39.1 u40.1 u41.1 u42.1 u43.1 u44.1 u45.1 u46.1 u47.1 u48.1 u49.1 u50.1 u51.1 u52.1 u53.1 u54.1 u55.1 u56.1 u57.1 u58.1 u59.1
noncomputable def health_Check_o (K : Nat) : FO := fnFO health_Check_h health_Check_r fun t => health_Check_gu K t
theorem health_Check_ok (K : Nat) : FOok Tryz.prog 51 (health_Check_o K) := fnE Bs (health_Check_n K) [] [] (health_Check_k K) trivial 0 Tryz.func51 fun t => by kernel_rfl
/-! guard_within -/
noncomputable def guard_within_l0h : Sh := ⟨24, [(0, .sc (i6)), (1, .sc (i6)), (9, .sc (.slr0 0)), (10, .sc (i6)), (11, .sc (i6))], [(0, [])], [(false, true, [r6])]⟩
noncomputable def guard_within_l0x0 : Sh := ⟨24, [], [(0, [])], []⟩
noncomputable def guard_within_l0x1 : Sh := ⟨24, [(6, .sc (.b))], [(0, [])], []⟩
noncomputable def guard_within_l0r (K : Nat) (rec : Int → Int → Nat → Int → Int → (Nat → Int) → Option ((Unit) ⊕ (Bool × Unit))) (a0 a1 : Int) (n2 : Nat) (a3 a4 : Int) (m5 : (Nat → Int)) : Option ((Unit) ⊕ (Bool × Unit)) :=
  (bif (decide (a4 < a3)) then (bif ((decide (0 ≤ a4)) && (decide (a4 < ((n2 : Nat) : Int)))) then (bif (decide ((m5 (Int.toNat a4)) < a0)) then (some (.inr (false, ()))) else (bif (decide ((m5 (Int.toNat a4)) > a1)) then (some (.inr (false, ()))) else (rec a0 a1 n2 a3 (wi64 (a4 + 1)) m5))) else none) else (some (.inl (()))))
noncomputable def guard_within_l0 (K n : Nat) := itN (fun _ _ _ _ _ _ => none) (guard_within_l0r K) n
noncomputable def guard_within_l0u (K n : Nat) (t : guard_within_l0h.T) : Option ((Unit) ⊕ (Bool × Unit)) :=
  guard_within_l0 K n t.1 t.2.1 t.2.2.1 t.2.2.2.1 t.2.2.2.2.1 t.2.2.2.2.2.1
noncomputable def guard_within_l0E (K : Nat) : LoopE Tryz.prog := lpE Bs [] [] [] trivial trivial 0 Tryz.func122 2 [] guard_within_l0h (OutI.or (OutI.exit 0 guard_within_l0x0) (OutI.ret guard_within_l0x1)) (fun n t => guard_within_l0u K n t) (fun _ => rfl) (fun n t => by kernel_rfl) K
noncomputable def guard_within_h : Sh := ⟨3, [(0, .sc (i6)), (1, .sc (i6)), (2, .sc (.slr0 0))], [], [(false, true, [r6])]⟩
noncomputable def guard_within_r : Sh := ⟨1, [(0, .sc (.b))], [], []⟩
noncomputable def guard_within_g (K : Nat) (a0 a1 : Int) (n2 : Nat) (m3 : (Nat → Int)) : Option (Bool × Unit) :=
  ((guard_within_l0 K K a0 a1 n2 ((n2 : Nat) : Int) 0 m3).bind fun q1 => (Sum.elim (fun q2 => (some (true, ()))) (fun q3 => (some (q3.1, ()))) q1))
noncomputable def guard_within_gu (K : Nat) (t : guard_within_h.T) : Option (Bool × Unit) :=
  guard_within_g K t.1 t.2.1 t.2.2.1 t.2.2.2.1
noncomputable def guard_within_o (K : Nat) : FO := fnFO guard_within_h guard_within_r fun t => guard_within_gu K t
theorem guard_within_ok (K : Nat) : FOok Tryz.prog 122 (guard_within_o K) := fnE Bs [] [] [guard_within_l0E K] trivial trivial 0 Tryz.func122 fun t => by kernel_rfl
/-! guard_alarm_may -/
noncomputable def guard_alarm_may_n (K : Nat) : List (FuncId × FO) := [(122, guard_within_o K)]
theorem guard_alarm_may_k (K : Nat) : fnsOk Tryz.prog (guard_alarm_may_n K) := ⟨guard_within_ok K, trivial⟩
noncomputable def guard_alarm_may_h : Sh := ⟨1, [(0, .ag [i6, .b, i6, i6, .b, i6])], [], []⟩
noncomputable def guard_alarm_may_r : Sh := ⟨1, [(0, .sc (.b))], [], []⟩
noncomputable def guard_alarm_may_g (K : Nat) (a0 : Int) (b1 : Bool) (a2 a3 : Int) (b4 : Bool) (a5 : Int) : Option (Bool × Unit) :=
  ((guard_within_g K 0 3 1 (fun j => (selI [a0] j))).bind fun q1 => (bif q1.1 then ((guard_within_g K (-2147483648) 2147483648 1 (fun j => (selI [a2] j))).bind fun q2 => (bif q2.1 then ((guard_within_g K 0 2147483648 1 (fun j => (selI [a3] j))).bind fun q3 => (some (q3.1, ()))) else (some (false, ())))) else (some (false, ()))))
noncomputable def guard_alarm_may_gu (K : Nat) (t : guard_alarm_may_h.T) : Option (Bool × Unit) :=
  guard_alarm_may_g K t.1 t.2.1 t.2.2.1 t.2.2.2.1 t.2.2.2.2.1 t.2.2.2.2.2.1
noncomputable def guard_alarm_may_o (K : Nat) : FO := fnFO guard_alarm_may_h guard_alarm_may_r fun t => guard_alarm_may_gu K t
theorem guard_alarm_may_ok (K : Nat) : FOok Tryz.prog 121 (guard_alarm_may_o K) := fnE Bs (guard_alarm_may_n K) [] [] (guard_alarm_may_k K) trivial 0 Tryz.func121 fun t => by kernel_rfl
/-! guard_Check -/
noncomputable def guard_Check_n (K : Nat) : List (FuncId × FO) := [(121, guard_alarm_may_o K), (122, guard_within_o K)]
theorem guard_Check_k (K : Nat) : fnsOk Tryz.prog (guard_Check_n K) := ⟨guard_alarm_may_ok K, guard_within_ok K, trivial⟩
noncomputable def guard_Check_l0h : Sh := ⟨20, [(1, .sc (i6)), (7, .ag [i6, .b, i6, i6, i6, .b, i6, i6, i6, .b, i6, i6, i6, .b, i6, i6, i6, .b, i6, i6, i6, .b, i6, i6]), (8, .sc (i6))], [(0, [])], []⟩
noncomputable def guard_Check_l0x0 : Sh := ⟨20, [(1, .sc (i6))], [(0, [])], []⟩
noncomputable def guard_Check_l0x1 : Sh := ⟨20, [(4, .sc (i6))], [(0, [])], []⟩
noncomputable def guard_Check_l0r (K : Nat) (rec : Int → Int → Bool → Int → Int → Int → Bool → Int → Int → Int → Bool → Int → Int → Int → Bool → Int → Int → Int → Bool → Int → Int → Int → Bool → Int → Int → Int → Option ((Int × Unit) ⊕ (Int × Unit))) (a0 a1 : Int) (b2 : Bool) (a3 a4 a5 : Int) (b6 : Bool) (a7 a8 a9 : Int) (b10 : Bool) (a11 a12 a13 : Int) (b14 : Bool) (a15 a16 a17 : Int) (b18 : Bool) (a19 a20 a21 : Int) (b22 : Bool) (a23 a24 a25 : Int) : Option ((Int × Unit) ⊕ (Int × Unit)) :=
  (bif (decide (a25 < 6)) then (bif ((decide (0 ≤ a25)) && (decide (a25 < 6))) then ((guard_alarm_may_g K (selI [a1, a5, a9, a13, a17, a21] (Int.toNat a25)) (selB [b2, b6, b10, b14, b18, b22] (Int.toNat a25)) (selI [a3, a7, a11, a15, a19, a23] (Int.toNat a25)) (selI [a4, a8, a12, a16, a20, a24] (Int.toNat a25)) false 0).bind fun q1 => (bif (!q1.1) then (some (.inr (2, ()))) else (rec a0 a1 b2 a3 a4 a5 b6 a7 a8 a9 b10 a11 a12 a13 b14 a15 a16 a17 b18 a19 a20 a21 b22 a23 a24 (wi64 (a25 + 1))))) else none) else (some (.inl (a0, ()))))
noncomputable def guard_Check_l0 (K n : Nat) := itN (fun _ _ _ _ _ _ _ _ _ _ _ _ _ _ _ _ _ _ _ _ _ _ _ _ _ _ => none) (guard_Check_l0r K) n
noncomputable def guard_Check_l0u (K n : Nat) (t : guard_Check_l0h.T) : Option ((Int × Unit) ⊕ (Int × Unit)) :=
  let u1 := t.2
  let u2 := u1.2
  let u3 := u2.2
  let u4 := u3.2
  let u5 := u4.2
  let u6 := u5.2
  let u7 := u6.2
  let u8 := u7.2
  let u9 := u8.2
  let u10 := u9.2
  let u11 := u10.2
  let u12 := u11.2
  let u13 := u12.2
  let u14 := u13.2
  let u15 := u14.2
  let u16 := u15.2
  let u17 := u16.2
  let u18 := u17.2
  let u19 := u18.2
  let u20 := u19.2
  let u21 := u20.2
  let u22 := u21.2
  let u23 := u22.2
  let u24 := u23.2
  let u25 := u24.2
  guard_Check_l0 K n t.1 u1.1 u2.1 u3.1 u4.1 u5.1 u6.1 u7.1 u8.1 u9.1 u10.1 u11.1 u12.1 u13.1 u14.1 u15.1 u16.1 u17.1 u18.1 u19.1 u20.1 u21.1 u22.1 u23.1 u24.1 u25.1
noncomputable def guard_Check_l0E (K : Nat) : LoopE Tryz.prog := lpE Bs (guard_Check_n K) [] [] (guard_Check_k K) trivial 0 Tryz.func52 2 [] guard_Check_l0h (OutI.or (OutI.exit 0 guard_Check_l0x0) (OutI.ret guard_Check_l0x1)) (fun n t => guard_Check_l0u K n t) (fun _ => rfl) (fun n t => by kernel_rfl) K
noncomputable def guard_Check_h : Sh := ⟨2, [(0, .ag [i6, .b, i6, i6, i6, .b, i6, i6, i6, .b, i6, i6, i6, .b, i6, i6, i6, .b, i6, i6, i6, .b, i6, i6]), (1, .sc (i6))], [], []⟩
noncomputable def guard_Check_r : Sh := ⟨1, [(0, .sc (i6))], [], []⟩
noncomputable def guard_Check_g (K : Nat) (a0 : Int) (b1 : Bool) (a2 a3 a4 : Int) (b5 : Bool) (a6 a7 a8 : Int) (b9 : Bool) (a10 a11 a12 : Int) (b13 : Bool) (a14 a15 a16 : Int) (b17 : Bool) (a18 a19 a20 : Int) (b21 : Bool) (a22 a23 a24 : Int) : Option (Int × Unit) :=
  ((guard_Check_l0 K K a24 a0 b1 a2 a3 a4 b5 a6 a7 a8 b9 a10 a11 a12 b13 a14 a15 a16 b17 a18 a19 a20 b21 a22 a23 0).bind fun q1 => (Sum.elim (fun q2 => ((guard_within_g K 1 31 1 (fun j => (selI [q2.1] j))).bind fun q4 => (bif (!q4.1) then (some (2, ())) else (some (0, ()))))) (fun q3 => (some (q3.1, ()))) q1))
noncomputable def guard_Check_gu (K : Nat) (t : guard_Check_h.T) : Option (Int × Unit) :=
  let u1 := t.2
  let u2 := u1.2
  let u3 := u2.2
  let u4 := u3.2
  let u5 := u4.2
  let u6 := u5.2
  let u7 := u6.2
  let u8 := u7.2
  let u9 := u8.2
  let u10 := u9.2
  let u11 := u10.2
  let u12 := u11.2
  let u13 := u12.2
  let u14 := u13.2
  let u15 := u14.2
  let u16 := u15.2
  let u17 := u16.2
  let u18 := u17.2
  let u19 := u18.2
  let u20 := u19.2
  let u21 := u20.2
  let u22 := u21.2
  let u23 := u22.2
  let u24 := u23.2
  guard_Check_g K t.1 u1.1 u2.1 u3.1 u4.1 u5.1 u6.1 u7.1 u8.1 u9.1 u10.1 u11.1 u12.1 u13.1 u14.1 u15.1 u16.1 u17.1 u18.1 u19.1 u20.1 u21.1 u22.1 u23.1 u24.1
noncomputable def guard_Check_o (K : Nat) : FO := fnFO guard_Check_h guard_Check_r fun t => guard_Check_gu K t
theorem guard_Check_ok (K : Nat) : FOok Tryz.prog 52 (guard_Check_o K) := fnE Bs (guard_Check_n K) [] [guard_Check_l0E K] (guard_Check_k K) trivial 0 Tryz.func52 fun t => by kernel_rfl
/-! state_range_has -/
noncomputable def state_range_has_l0h : Sh := ⟨24, [(2, .sc (.lit (.p 0 0 0 []))), (7, .sc (.slr0 1)), (8, .sc (i6)), (9, .sc (i6))], [(0, [])], [(true, false, [i6, i6]), (false, true, [r6])]⟩
noncomputable def state_range_has_l0x0 : Sh := ⟨24, [], [(0, [])], []⟩
noncomputable def state_range_has_l0x1 : Sh := ⟨24, [(4, .sc (.b))], [(0, [])], []⟩
noncomputable def state_range_has_l0r (K : Nat) (rec : Nat → Int → Int → Int → Int → (Nat → Int) → Option ((Unit) ⊕ (Bool × Unit))) (n0 : Nat) (a1 a2 a3 a4 : Int) (m5 : (Nat → Int)) : Option ((Unit) ⊕ (Bool × Unit)) :=
  (bif (decide (a2 < a1)) then (bif ((decide (0 ≤ a2)) && (decide (a2 < ((n0 : Nat) : Int)))) then (bif (decide ((m5 (Int.toNat a2)) < a3)) then (some (.inr (false, ()))) else (bif (decide ((m5 (Int.toNat a2)) > a4)) then (some (.inr (false, ()))) else (rec n0 a1 (wi64 (a2 + 1)) a3 a4 m5))) else none) else (some (.inl (()))))
noncomputable def state_range_has_l0 (K n : Nat) := itN (fun _ _ _ _ _ _ => none) (state_range_has_l0r K) n
noncomputable def state_range_has_l0u (K n : Nat) (t : state_range_has_l0h.T) : Option ((Unit) ⊕ (Bool × Unit)) :=
  state_range_has_l0 K n t.1 t.2.1 t.2.2.1 t.2.2.2.1 t.2.2.2.2.1 t.2.2.2.2.2.1
noncomputable def state_range_has_l0E (K : Nat) : LoopE Tryz.prog := lpE Bs [] [] [] trivial trivial 0 Tryz.func53 2 [] state_range_has_l0h (OutI.or (OutI.exit 0 state_range_has_l0x0) (OutI.ret state_range_has_l0x1)) (fun n t => state_range_has_l0u K n t) (fun _ => rfl) (fun n t => by kernel_rfl) K
noncomputable def state_range_has_h : Sh := ⟨2, [(0, .ag [i6, i6]), (1, .sc (.slr0 0))], [], [(false, true, [r6])]⟩
noncomputable def state_range_has_r : Sh := ⟨1, [(0, .sc (.b))], [], []⟩
noncomputable def state_range_has_g (K : Nat) (a0 a1 : Int) (n2 : Nat) (m3 : (Nat → Int)) : Option (Bool × Unit) :=
  ((state_range_has_l0 K K n2 ((n2 : Nat) : Int) 0 a0 a1 m3).bind fun q1 => (Sum.elim (fun q2 => (some (true, ()))) (fun q3 => (some (q3.1, ()))) q1))
noncomputable def state_range_has_gu (K : Nat) (t : state_range_has_h.T) : Option (Bool × Unit) :=
  state_range_has_g K t.1 t.2.1 t.2.2.1 t.2.2.2.1
noncomputable def state_range_has_o (K : Nat) : FO := fnFO state_range_has_h state_range_has_r fun t => state_range_has_gu K t
theorem state_range_has_ok (K : Nat) : FOok Tryz.prog 53 (state_range_has_o K) := fnE Bs [] [] [state_range_has_l0E K] trivial trivial 0 Tryz.func53 fun t => by kernel_rfl
/-! state_Check -/
noncomputable def state_Check_n (K : Nat) : List (FuncId × FO) := [(48, sample_Check_o K), (49, model_Check_o K), (50, grid_Check_o K), (51, health_Check_o K), (52, guard_Check_o K), (53, state_range_has_o K)]
theorem state_Check_k (K : Nat) : fnsOk Tryz.prog (state_Check_n K) := ⟨sample_Check_ok K, model_Check_ok K, grid_Check_ok K, health_Check_ok K, guard_Check_ok K, state_range_has_ok K, trivial⟩
noncomputable def state_Check_l0h : Sh := ⟨46, [(1, .sc (.lit (.p 0 0 0 []))), (23, .sc (.slf 1 0 1 5)), (24, .sc (i6)), (25, .sc (i6))], [(0, [])], [(true, false, [i6, i6, i6, i6, i6, i6, i6, i6, i6, i6, i6, i6, i6, i6, i6, i6, i6, i6, i6, i6, i6, i6, i6, .slr0 2, .slr0 3, .slr0 4, i6, i6, i6, i6, i6, i6, .b, i6, i6, i6, .b, i6, i6, i6, .b, i6, i6, i6, .b, i6, i6, i6, .b, i6, i6, i6, .b, i6, i6, i6, i6]), (true, false, [i6, i6, i6, i6, i6]), (false, true, [r6]), (false, true, [r6]), (false, true, [r6])]⟩
noncomputable def state_Check_l0x0 : Sh := ⟨46, [(1, .sc (.lit (.p 0 0 0 [])))], [(0, [])], [(true, false, [i6, i6, i6, i6, i6, i6, i6, i6, i6, i6, i6, i6, i6, i6, i6, i6, i6, i6, i6, i6, i6, i6, i6, .slr0 1, .slr0 2, .slr0 3, i6, i6, i6, i6, i6, i6, .b, i6, i6, i6, .b, i6, i6, i6, .b, i6, i6, i6, .b, i6, i6, i6, .b, i6, i6, i6, .b, i6, i6, i6, i6]), (false, true, [r6]), (false, true, [r6]), (false, true, [r6])]⟩
noncomputable def state_Check_l0x1 : Sh := ⟨46, [(2, .sc (i6))], [(0, [])], []⟩
noncomputable def state_Check_l0r (K : Nat) (rec : Nat → Nat → Int → Int → Int → Int → Int → Int → Int → Int → Int → Int → Int → Int → Int → Int → Int → Int → Int → Int → Int → Int → Int → Int → Int → Int → Int → Nat → Nat → Nat → Int → Int → Int → Int → Int → Int → Bool → Int → Int → Int → Bool → Int → Int → Int → Bool → Int → Int → Int → Bool → Int → Int → Int → Bool → Int → Int → Int → Bool → Int → Int → Int → Int → Int → Int → Int → Int → Int → (Nat → Int) → (Nat → Int) → (Nat → Int) → Option ((Int × Int × Int × Int × Int × Int × Int × Int × Int × Int × Int × Int × Int × Int × Int × Int × Int × Int × Int × Int × Int × Int × Int × Nat × Nat × Nat × Int × Int × Int × Int × Int × Int × Bool × Int × Int × Int × Bool × Int × Int × Int × Bool × Int × Int × Int × Bool × Int × Int × Int × Bool × Int × Int × Int × Bool × Int × Int × Int × Int × (Nat → Int) × (Nat → Int) × (Nat → Int) × Unit) ⊕ (Int × Unit))) (n0 n1 : Nat) (a2 a3 a4 a5 a6 a7 a8 a9 a10 a11 a12 a13 a14 a15 a16 a17 a18 a19 a20 a21 a22 a23 a24 a25 a26 : Int) (n27 n28 n29 : Nat) (a30 a31 a32 a33 a34 a35 : Int) (b36 : Bool) (a37 a38 a39 : Int) (b40 : Bool) (a41 a42 a43 : Int) (b44 : Bool) (a45 a46 a47 : Int) (b48 : Bool) (a49 a50 a51 : Int) (b52 : Bool) (a53 a54 a55 : Int) (b56 : Bool) (a57 a58 a59 a60 a61 a62 a63 a64 a65 : Int) (m66 m67 m68 : (Nat → Int)) : Option ((Int × Int × Int × Int × Int × Int × Int × Int × Int × Int × Int × Int × Int × Int × Int × Int × Int × Int × Int × Int × Int × Int × Int × Nat × Nat × Nat × Int × Int × Int × Int × Int × Int × Bool × Int × Int × Int × Bool × Int × Int × Int × Bool × Int × Int × Int × Bool × Int × Int × Int × Bool × Int × Int × Int × Bool × Int × Int × Int × Int × (Nat → Int) × (Nat → Int) × (Nat → Int) × Unit) ⊕ (Int × Unit)) :=
  (bif (decide (a3 < a2)) then (bif ((decide (0 ≤ a3)) && (decide (a3 < ((n1 : Nat) : Int)))) then (bif ((selI [a61, a62, a63, a64, a65] ((Int.toNat a3) + n0)) != 0) then (some (.inr (210, ()))) else (rec n0 n1 a2 (wi64 (a3 + 1)) a4 a5 a6 a7 a8 a9 a10 a11 a12 a13 a14 a15 a16 a17 a18 a19 a20 a21 a22 a23 a24 a25 a26 n27 n28 n29 a30 a31 a32 a33 a34 a35 b36 a37 a38 a39 b40 a41 a42 a43 b44 a45 a46 a47 b48 a49 a50 a51 b52 a53 a54 a55 b56 a57 a58 a59 a60 a61 a62 a63 a64 a65 m66 m67 m68)) else none) else (some (.inl (a4, a5, a6, a7, a8, a9, a10, a11, a12, a13, a14, a15, a16, a17, a18, a19, a20, a21, a22, a23, a24, a25, a26, n27, n28, n29, a30, a31, a32, a33, a34, a35, b36, a37, a38, a39, b40, a41, a42, a43, b44, a45, a46, a47, b48, a49, a50, a51, b52, a53, a54, a55, b56, a57, a58, a59, a60, m66, m67, m68, ()))))
noncomputable def state_Check_l0 (K n : Nat) := itN (fun _ _ _ _ _ _ _ _ _ _ _ _ _ _ _ _ _ _ _ _ _ _ _ _ _ _ _ _ _ _ _ _ _ _ _ _ _ _ _ _ _ _ _ _ _ _ _ _ _ _ _ _ _ _ _ _ _ _ _ _ _ _ _ _ _ _ _ _ _ => none) (state_Check_l0r K) n
noncomputable def state_Check_l0u (K n : Nat) (t : state_Check_l0h.T) : Option ((Int × Int × Int × Int × Int × Int × Int × Int × Int × Int × Int × Int × Int × Int × Int × Int × Int × Int × Int × Int × Int × Int × Int × Nat × Nat × Nat × Int × Int × Int × Int × Int × Int × Bool × Int × Int × Int × Bool × Int × Int × Int × Bool × Int × Int × Int × Bool × Int × Int × Int × Bool × Int × Int × Int × Bool × Int × Int × Int × Int × (Nat → Int) × (Nat → Int) × (Nat → Int) × Unit) ⊕ (Int × Unit)) :=
  let u1 := t.2
  let u2 := u1.2
  let u3 := u2.2
  let u4 := u3.2
  let u5 := u4.2
  let u6 := u5.2
  let u7 := u6.2
  let u8 := u7.2
  let u9 := u8.2
  let u10 := u9.2
  let u11 := u10.2
  let u12 := u11.2
  let u13 := u12.2
  let u14 := u13.2
  let u15 := u14.2
  let u16 := u15.2
  let u17 := u16.2
  let u18 := u17.2
  let u19 := u18.2
  let u20 := u19.2
  let u21 := u20.2
  let u22 := u21.2
  let u23 := u22.2
  let u24 := u23.2
  let u25 := u24.2
  let u26 := u25.2
  let u27 := u26.2
  let u28 := u27.2
  let u29 := u28.2
  let u30 := u29.2
  let u31 := u30.2
  let u32 := u31.2
  let u33 := u32.2
  let u34 := u33.2
  let u35 := u34.2
  let u36 := u35.2
  let u37 := u36.2
  let u38 := u37.2
  let u39 := u38.2
  let u40 := u39.2
  let u41 := u40.2
  let u42 := u41.2
  let u43 := u42.2
  let u44 := u43.2
  let u45 := u44.2
  let u46 := u45.2
  let u47 := u46.2
  let u48 := u47.2
  let u49 := u48.2
  let u50 := u49.2
  let u51 := u50.2
  let u52 := u51.2
  let u53 := u52.2
  let u54 := u53.2
  let u55 := u54.2
  let u56 := u55.2
  let u57 := u56.2
  let u58 := u57.2
  let u59 := u58.2
  let u60 := u59.2
  let u61 := u60.2
  let u62 := u61.2
  let u63 := u62.2
  let u64 := u63.2
  let u65 := u64.2
  let u66 := u65.2
  let u67 := u66.2
  let u68 := u67.2
  state_Check_l0 K n t.1 u1.1 u2.1 u3.1 u4.1 u5.1 u6.1 u7.1 u8.1 u9.1 u10.1 u11.1 u12.1 u13.1 u14.1 u15.1 u16.1 u17.1 u18.1 u19.1 u20.1 u21.1 u22.1 u23.1 u24.1 u25.1 u26.1 u27.1 u28.1 u29.1 u30.1 u31.1 u32.1 u33.1 u34.1 u35.1 u36.1 u37.1 u38.1 u39.1 u40.1 u41.1 u42.1 u43.1 u44.1 u45.1 u46.1 u47.1 u48.1 u49.1 u50.1 u51.1 u52.1 u53.1 u54.1 u55.1 u56.1 u57.1 u58.1 u59.1 u60.1 u61.1 u62.1 u63.1 u64.1 u65.1 u66.1 u67.1 u68.1
noncomputable def state_Check_l0E (K : Nat) : LoopE Tryz.prog := lpE Bs (state_Check_n K) [] [] (state_Check_k K) trivial 0 Tryz.func14 2 [] state_Check_l0h (OutI.or (OutI.exit 0 state_Check_l0x0) (OutI.ret state_Check_l0x1)) (fun n t => state_Check_l0u K n t) (fun _ => rfl) (fun n t => by kernel_rfl) K
noncomputable def state_Check_h : Sh := ⟨1, [(0, .ag [i6, i6, i6, i6, i6, i6, i6, i6, i6, i6, i6, i6, i6, i6, i6, i6, i6, i6, i6, i6, i6, i6, i6, .slr0 0, .slr0 1, .slr0 2, i6, i6, i6, i6, i6, i6, .b, i6, i6, i6, .b, i6, i6, i6, .b, i6, i6, i6, .b, i6, i6, i6, .b, i6, i6, i6, .b, i6, i6, i6, i6])], [], [(false, true, [r6]), (false, true, [r6]), (false, true, [r6])]⟩
noncomputable def state_Check_r : Sh := ⟨1, [(0, .sc (i6))], [], []⟩
noncomputable def state_Check_g (K : Nat) (a0 a1 a2 a3 a4 a5 a6 a7 a8 a9 a10 a11 a12 a13 a14 a15 a16 a17 a18 a19 a20 a21 a22 : Int) (n23 n24 n25 : Nat) (a26 a27 a28 a29 a30 a31 : Int) (b32 : Bool) (a33 a34 a35 : Int) (b36 : Bool) (a37 a38 a39 : Int) (b40 : Bool) (a41 a42 a43 : Int) (b44 : Bool) (a45 a46 a47 : Int) (b48 : Bool) (a49 a50 a51 : Int) (b52 : Bool) (a53 a54 a55 a56 : Int) (m57 m58 m59 : (Nat → Int)) : Option (Int × Unit) :=
  ((sample_Check_g K a0 a1 a2 a3 a4 a5 a6 a7 a8 a9 a10 a11 a12 a13 a14).bind fun q1 => ((model_Check_g K a15 a16 a17 a18 a19 a20 a21 a22).bind fun q2 => ((grid_Check_g K n23 n24 n25 m57 m58 m59).bind fun q3 => ((health_Check_g K a0 a1 a2 a3 a4 a5 a6 a7 a8 a9 a10 a11 a12 a13 a14 a15 a16 a17 a18 a19 a20 a21 a22 n23 n24 n25 a26 a27 a28 a29 a30 a31 b32 a33 a34 a35 b36 a37 a38 a39 b40 a41 a42 a43 b44 a45 a46 a47 b48 a49 a50 a51 b52 a53 a54 a55 a56 m57 m58 m59).bind fun q4 => ((guard_Check_g K a31 b32 a33 a34 a35 b36 a37 a38 a39 b40 a41 a42 a43 b44 a45 a46 a47 b48 a49 a50 a51 b52 a53 a54 a55).bind fun q5 => ((state_Check_l0 K K 0 5 5 0 a0 a1 a2 a3 a4 a5 a6 a7 a8 a9 a10 a11 a12 a13 a14 a15 a16 a17 a18 a19 a20 a21 a22 n23 n24 n25 a26 a27 a28 a29 a30 a31 b32 a33 a34 a35 b36 a37 a38 a39 b40 a41 a42 a43 b44 a45 a46 a47 b48 a49 a50 a51 b52 a53 a54 a55 a56 q1.1 q2.1 q3.1 q4.1 q5.1 m57 m58 m59).bind fun q6 => (Sum.elim (fun q7 => let q7_1 := q7.2; let q7_2 := q7_1.2; let q7_3 := q7_2.2; let q7_4 := q7_3.2; let q7_5 := q7_4.2; let q7_6 := q7_5.2; let q7_7 := q7_6.2; let q7_8 := q7_7.2; let q7_9 := q7_8.2; let q7_10 := q7_9.2; let q7_11 := q7_10.2; let q7_12 := q7_11.2; let q7_13 := q7_12.2; let q7_14 := q7_13.2; let q7_15 := q7_14.2; let q7_16 := q7_15.2; let q7_17 := q7_16.2; let q7_18 := q7_17.2; let q7_19 := q7_18.2; let q7_20 := q7_19.2; let q7_21 := q7_20.2; let q7_22 := q7_21.2; let q7_23 := q7_22.2; let q7_24 := q7_23.2; let q7_25 := q7_24.2; let q7_26 := q7_25.2; let q7_27 := q7_26.2; let q7_28 := q7_27.2; let q7_29 := q7_28.2; let q7_30 := q7_29.2; let q7_31 := q7_30.2; let q7_32 := q7_31.2; let q7_33 := q7_32.2; let q7_34 := q7_33.2; let q7_35 := q7_34.2; let q7_36 := q7_35.2; let q7_37 := q7_36.2; let q7_38 := q7_37.2; let q7_39 := q7_38.2; let q7_40 := q7_39.2; let q7_41 := q7_40.2; let q7_42 := q7_41.2; let q7_43 := q7_42.2; let q7_44 := q7_43.2; let q7_45 := q7_44.2; let q7_46 := q7_45.2; let q7_47 := q7_46.2; let q7_48 := q7_47.2; let q7_49 := q7_48.2; let q7_50 := q7_49.2; let q7_51 := q7_50.2; let q7_52 := q7_51.2; let q7_53 := q7_52.2; let q7_54 := q7_53.2; let q7_55 := q7_54.2; let q7_56 := q7_55.2; ((state_range_has_g K 1 10000 1 (fun j => (selI [q7_26.1] j))).bind fun q9 => (bif (!q9.1) then (some (210, ())) else ((state_range_has_g K 1 1125899906842624 1 (fun j => (selI [q7_56.1] j))).bind fun q10 => (bif (!q10.1) then (some (210, ())) else (some (0, ()))))))) (fun q8 => (some (q8.1, ()))) q6)))))))
noncomputable def state_Check_gu (K : Nat) (t : state_Check_h.T) : Option (Int × Unit) :=
  let u1 := t.2
  let u2 := u1.2
  let u3 := u2.2
  let u4 := u3.2
  let u5 := u4.2
  let u6 := u5.2
  let u7 := u6.2
  let u8 := u7.2
  let u9 := u8.2
  let u10 := u9.2
  let u11 := u10.2
  let u12 := u11.2
  let u13 := u12.2
  let u14 := u13.2
  let u15 := u14.2
  let u16 := u15.2
  let u17 := u16.2
  let u18 := u17.2
  let u19 := u18.2
  let u20 := u19.2
  let u21 := u20.2
  let u22 := u21.2
  let u23 := u22.2
  let u24 := u23.2
  let u25 := u24.2
  let u26 := u25.2
  let u27 := u26.2
  let u28 := u27.2
  let u29 := u28.2
  let u30 := u29.2
  let u31 := u30.2
  let u32 := u31.2
  let u33 := u32.2
  let u34 := u33.2
  let u35 := u34.2
  let u36 := u35.2
  let u37 := u36.2
  let u38 := u37.2
  let u39 := u38.2
  let u40 := u39.2
  let u41 := u40.2
  let u42 := u41.2
  let u43 := u42.2
  let u44 := u43.2
  let u45 := u44.2
  let u46 := u45.2
  let u47 := u46.2
  let u48 := u47.2
  let u49 := u48.2
  let u50 := u49.2
  let u51 := u50.2
  let u52 := u51.2
  let u53 := u52.2
  let u54 := u53.2
  let u55 := u54.2
  let u56 := u55.2
  let u57 := u56.2
  let u58 := u57.2
  let u59 := u58.2
  state_Check_g K t.1 u1.1 u2.1 u3.1 u4.1 u5.1 u6.1 u7.1 u8.1 u9.1 u10.1 u11.1 u12.1 u13.1 u14.1 u15.1 u16.1 u17.1 u18.1 u19.1 u20.1 u21.1 u22.1 u23.1 u24.1 u25.1 u26.1 u27.1 u28.1 u29.1 u30.1 u31.1 u32.1 u33.1 u34.1 u35.1 u36.1 u37.1 u38.1 u39.1 u40.1 u41.1 u42.1 u43.1 u44.1 u45.1 u46.1 u47.1 u48.1 u49.1 u50.1 u51.1 u52.1 u53.1 u54.1 u55.1 u56.1 u57.1 u58.1 u59.1
noncomputable def state_Check_o (K : Nat) : FO := fnFO state_Check_h state_Check_r fun t => state_Check_gu K t
theorem state_Check_ok (K : Nat) : FOok Tryz.prog 14 (state_Check_o K) := fnE Bs (state_Check_n K) [] [state_Check_l0E K] (state_Check_k K) trivial 0 Tryz.func14 fun t => by kernel_rfl
/-! state_New -/
noncomputable def state_New_n (K : Nat) : List (FuncId × FO) := [(14, state_Check_o K)]
theorem state_New_k (K : Nat) : fnsOk Tryz.prog (state_New_n K) := ⟨state_Check_ok K, trivial⟩
noncomputable def state_New_h : Sh := ⟨1, [(0, .ag [i6, i6, i6, i6, i6, i6, i6, i6, i6, i6, i6, i6, i6, i6, i6, i6, i6, i6, i6, i6, i6, i6, i6, .slr0 0, .slr0 1, .slr0 2, i6, i6, i6, i6, i6, i6, .b, i6, i6, i6, .b, i6, i6, i6, .b, i6, i6, i6, .b, i6, i6, i6, .b, i6, i6, i6, .b, i6, i6, i6, i6])], [], [(false, true, [r6]), (false, true, [r6]), (false, true, [r6])]⟩
noncomputable def state_New_r : Sh := ⟨2, [(0, .ag [i6, i6, i6, i6, i6, i6, i6, i6, i6, i6, i6, i6, i6, i6, i6, i6, i6, i6, i6, i6, i6, i6, i6]), (1, .sc (i6))], [], []⟩
noncomputable def state_New_g (K : Nat) (a0 a1 a2 a3 a4 a5 a6 a7 a8 a9 a10 a11 a12 a13 a14 a15 a16 a17 a18 a19 a20 a21 a22 : Int) (n23 n24 n25 : Nat) (a26 a27 a28 a29 a30 a31 : Int) (b32 : Bool) (a33 a34 a35 : Int) (b36 : Bool) (a37 a38 a39 : Int) (b40 : Bool) (a41 a42 a43 : Int) (b44 : Bool) (a45 a46 a47 : Int) (b48 : Bool) (a49 a50 a51 : Int) (b52 : Bool) (a53 a54 a55 a56 : Int) (m57 m58 m59 : (Nat → Int)) : Option (Int × Int × Int × Int × Int × Int × Int × Int × Int × Int × Int × Int × Int × Int × Int × Int × Int × Int × Int × Int × Int × Int × Int × Int × Unit) :=
  ((state_Check_g K a0 a1 a2 a3 a4 a5 a6 a7 a8 a9 a10 a11 a12 a13 a14 a15 a16 a17 a18 a19 a20 a21 a22 n23 n24 n25 a26 a27 a28 a29 a30 a31 b32 a33 a34 a35 b36 a37 a38 a39 b40 a41 a42 a43 b44 a45 a46 a47 b48 a49 a50 a51 b52 a53 a54 a55 a56 m57 m58 m59).bind fun q1 => (bif (q1.1 != 0) then (some (0, 0, 0, 0, 0, 0, 0, 0, 0, 0, 0, 0, 0, 0, 0, 0, 0, 0, 0, 0, 0, 0, 0, q1.1, ())) else (some (0, 0, 5000, 5000, 0, 0, 0, 0, a27, (-1), 0, 0, 0, 0, 0, 0, 0, 0, 0, 0, 0, 0, 0, 0, ()))))
noncomputable def state_New_gu (K : Nat) (t : state_New_h.T) : Option (Int × Int × Int × Int × Int × Int × Int × Int × Int × Int × Int × Int × Int × Int × Int × Int × Int × Int × Int × Int × Int × Int × Int × Int × Unit) :=
  let u1 := t.2
  let u2 := u1.2
  let u3 := u2.2
  let u4 := u3.2
  let u5 := u4.2
  let u6 := u5.2
  let u7 := u6.2
  let u8 := u7.2
  let u9 := u8.2
  let u10 := u9.2
  let u11 := u10.2
  let u12 := u11.2
  let u13 := u12.2
  let u14 := u13.2
  let u15 := u14.2
  let u16 := u15.2
  let u17 := u16.2
  let u18 := u17.2
  let u19 := u18.2
  let u20 := u19.2
  let u21 := u20.2
  let u22 := u21.2
  let u23 := u22.2
  let u24 := u23.2
  let u25 := u24.2
  let u26 := u25.2
  let u27 := u26.2
  let u28 := u27.2
  let u29 := u28.2
  let u30 := u29.2
  let u31 := u30.2
  let u32 := u31.2
  let u33 := u32.2
  let u34 := u33.2
  let u35 := u34.2
  let u36 := u35.2
  let u37 := u36.2
  let u38 := u37.2
  let u39 := u38.2
  let u40 := u39.2
  let u41 := u40.2
  let u42 := u41.2
  let u43 := u42.2
  let u44 := u43.2
  let u45 := u44.2
  let u46 := u45.2
  let u47 := u46.2
  let u48 := u47.2
  let u49 := u48.2
  let u50 := u49.2
  let u51 := u50.2
  let u52 := u51.2
  let u53 := u52.2
  let u54 := u53.2
  let u55 := u54.2
  let u56 := u55.2
  let u57 := u56.2
  let u58 := u57.2
  let u59 := u58.2
  state_New_g K t.1 u1.1 u2.1 u3.1 u4.1 u5.1 u6.1 u7.1 u8.1 u9.1 u10.1 u11.1 u12.1 u13.1 u14.1 u15.1 u16.1 u17.1 u18.1 u19.1 u20.1 u21.1 u22.1 u23.1 u24.1 u25.1 u26.1 u27.1 u28.1 u29.1 u30.1 u31.1 u32.1 u33.1 u34.1 u35.1 u36.1 u37.1 u38.1 u39.1 u40.1 u41.1 u42.1 u43.1 u44.1 u45.1 u46.1 u47.1 u48.1 u49.1 u50.1 u51.1 u52.1 u53.1 u54.1 u55.1 u56.1 u57.1 u58.1 u59.1
noncomputable def state_New_o (K : Nat) : FO := fnFO state_New_h state_New_r fun t => state_New_gu K t
theorem state_New_ok (K : Nat) : FOok Tryz.prog 12 (state_New_o K) := fnE Bs (state_New_n K) [] [] (state_New_k K) trivial 0 Tryz.func12 fun t => by kernel_rfl
/-! rb_SameInts -/
noncomputable def rb_SameInts_l0h : Sh := ⟨26, [(0, .sc (.slr0 0)), (1, .sc (.slr0 1)), (5, .sc (i6))], [(0, [])], [(false, true, [r6]), (false, true, [r6])]⟩
noncomputable def rb_SameInts_l0x0 : Sh := ⟨26, [], [(0, [])], []⟩
noncomputable def rb_SameInts_l0x1 : Sh := ⟨26, [(4, .sc (.b))], [(0, [])], []⟩
noncomputable def rb_SameInts_l0r (K : Nat) (rec : Nat → Nat → Int → (Nat → Int) → (Nat → Int) → Option ((Unit) ⊕ (Bool × Unit))) (n0 n1 : Nat) (a2 : Int) (m3 m4 : (Nat → Int)) : Option ((Unit) ⊕ (Bool × Unit)) :=
  (bif (decide (a2 < ((n0 : Nat) : Int))) then (bif ((decide (0 ≤ a2)) && (decide (a2 < ((n0 : Nat) : Int)))) then (bif ((decide (0 ≤ a2)) && (decide (a2 < ((n1 : Nat) : Int)))) then (bif ((m3 (Int.toNat a2)) != (m4 (Int.toNat a2))) then (some (.inr (false, ()))) else (rec n0 n1 (wi64 (a2 + 1)) m3 m4)) else none) else none) else (some (.inl (()))))
noncomputable def rb_SameInts_l0 (K n : Nat) := itN (fun _ _ _ _ _ => none) (rb_SameInts_l0r K) n
noncomputable def rb_SameInts_l0u (K n : Nat) (t : rb_SameInts_l0h.T) : Option ((Unit) ⊕ (Bool × Unit)) :=
  rb_SameInts_l0 K n t.1 t.2.1 t.2.2.1 t.2.2.2.1 t.2.2.2.2.1
noncomputable def rb_SameInts_l0E (K : Nat) : LoopE Tryz.prog := lpE Bs [] [] [] trivial trivial 0 Tryz.func25 4 [] rb_SameInts_l0h (OutI.or (OutI.exit 0 rb_SameInts_l0x0) (OutI.ret rb_SameInts_l0x1)) (fun n t => rb_SameInts_l0u K n t) (fun _ => rfl) (fun n t => by kernel_rfl) K
noncomputable def rb_SameInts_h : Sh := ⟨2, [(0, .sc (.slr0 0)), (1, .sc (.slr0 1))], [], [(false, true, [r6]), (false, true, [r6])]⟩
noncomputable def rb_SameInts_r : Sh := ⟨1, [(0, .sc (.b))], [], []⟩
noncomputable def rb_SameInts_g (K : Nat) (n0 n1 : Nat) (m2 m3 : (Nat → Int)) : Option (Bool × Unit) :=
  (bif (((n0 : Nat) : Int) != ((n1 : Nat) : Int)) then (some (false, ())) else ((rb_SameInts_l0 K K n0 n1 0 m2 m3).bind fun q1 => (Sum.elim (fun q2 => (some (true, ()))) (fun q3 => (some (q3.1, ()))) q1)))
noncomputable def rb_SameInts_gu (K : Nat) (t : rb_SameInts_h.T) : Option (Bool × Unit) :=
  rb_SameInts_g K t.1 t.2.1 t.2.2.1 t.2.2.2.1
noncomputable def rb_SameInts_o (K : Nat) : FO := fnFO rb_SameInts_h rb_SameInts_r fun t => rb_SameInts_gu K t
theorem rb_SameInts_ok (K : Nat) : FOok Tryz.prog 25 (rb_SameInts_o K) := fnE Bs [] [] [rb_SameInts_l0E K] trivial trivial 0 Tryz.func25 fun t => by kernel_rfl
/-! coulomb_residue_whole -/
noncomputable def coulomb_residue_whole_h : Sh := ⟨1, [(0, .sc (i6))], [], []⟩
noncomputable def coulomb_residue_whole_r : Sh := ⟨2, [(0, .sc (.b)), (1, .sc (.b))], [], []⟩
noncomputable def coulomb_residue_whole_g (K : Nat) (a0 : Int) : Option (Bool × Bool × Unit) :=
  (bif (decide (a0 ≥ 0)) then (some ((decide (a0 < 1000)), (a0 == 0), ())) else (some (false, (a0 == 0), ())))
noncomputable def coulomb_residue_whole_o (K : Nat) : FO := fnFO coulomb_residue_whole_h coulomb_residue_whole_r fun t => coulomb_residue_whole_g K t.1
theorem coulomb_residue_whole_ok (K : Nat) : FOok Tryz.prog 128 (coulomb_residue_whole_o K) := fnE Bs [] [] [] trivial trivial 0 Tryz.func128 fun t => by kernel_rfl
/-! coulomb_size -/
noncomputable def coulomb_size_l0h : Sh := ⟨23, [(0, .sc (i6)), (7, .sc (.slr0 0)), (8, .sc (i6)), (9, .sc (i6))], [(0, [])], [(false, true, [r6])]⟩
noncomputable def coulomb_size_l0x0 : Sh := ⟨23, [], [(0, [])], []⟩
noncomputable def coulomb_size_l0x1 : Sh := ⟨23, [(4, .sc (.b))], [(0, [])], []⟩
noncomputable def coulomb_size_l0r (K : Nat) (rec : Int → Nat → Int → Int → (Nat → Int) → Option ((Unit) ⊕ (Bool × Unit))) (a0 : Int) (n1 : Nat) (a2 a3 : Int) (m4 : (Nat → Int)) : Option ((Unit) ⊕ (Bool × Unit)) :=
  (bif (decide (a3 < a2)) then (bif ((decide (0 ≤ a3)) && (decide (a3 < ((n1 : Nat) : Int)))) then (bif (decide ((m4 (Int.toNat a3)) < (wi64 (0 - a0)))) then (some (.inr (false, ()))) else (bif (decide ((m4 (Int.toNat a3)) > a0)) then (some (.inr (false, ()))) else (rec a0 n1 a2 (wi64 (a3 + 1)) m4))) else none) else (some (.inl (()))))
noncomputable def coulomb_size_l0 (K n : Nat) := itN (fun _ _ _ _ _ => none) (coulomb_size_l0r K) n
noncomputable def coulomb_size_l0u (K n : Nat) (t : coulomb_size_l0h.T) : Option ((Unit) ⊕ (Bool × Unit)) :=
  coulomb_size_l0 K n t.1 t.2.1 t.2.2.1 t.2.2.2.1 t.2.2.2.2.1
noncomputable def coulomb_size_l0E (K : Nat) : LoopE Tryz.prog := lpE Bs [] [] [] trivial trivial 0 Tryz.func129 2 [] coulomb_size_l0h (OutI.or (OutI.exit 0 coulomb_size_l0x0) (OutI.ret coulomb_size_l0x1)) (fun n t => coulomb_size_l0u K n t) (fun _ => rfl) (fun n t => by kernel_rfl) K
noncomputable def coulomb_size_h : Sh := ⟨2, [(0, .sc (i6)), (1, .sc (.slr0 0))], [], [(false, true, [r6])]⟩
noncomputable def coulomb_size_r : Sh := ⟨1, [(0, .sc (.b))], [], []⟩
noncomputable def coulomb_size_g (K : Nat) (a0 : Int) (n1 : Nat) (m2 : (Nat → Int)) : Option (Bool × Unit) :=
  ((coulomb_size_l0 K K a0 n1 ((n1 : Nat) : Int) 0 m2).bind fun q1 => (Sum.elim (fun q2 => (some (true, ()))) (fun q3 => (some (q3.1, ()))) q1))
noncomputable def coulomb_size_o (K : Nat) : FO := fnFO coulomb_size_h coulomb_size_r fun t => coulomb_size_g K t.1 t.2.1 t.2.2.1
theorem coulomb_size_ok (K : Nat) : FOok Tryz.prog 129 (coulomb_size_o K) := fnE Bs [] [] [coulomb_size_l0E K] trivial trivial 0 Tryz.func129 fun t => by kernel_rfl
/-! coulomb_Check -/
noncomputable def coulomb_Check_n (K : Nat) : List (FuncId × FO) := [(128, coulomb_residue_whole_o K), (129, coulomb_size_o K)]
theorem coulomb_Check_k (K : Nat) : fnsOk Tryz.prog (coulomb_Check_n K) := ⟨coulomb_residue_whole_ok K, coulomb_size_ok K, trivial⟩
noncomputable def coulomb_Check_h : Sh := ⟨2, [(0, .sc (i6)), (1, .sc (i6))], [], []⟩
noncomputable def coulomb_Check_r : Sh := ⟨1, [(0, .sc (i6))], [], []⟩
noncomputable def coulomb_Check_g (K : Nat) (a0 a1 : Int) : Option (Int × Unit) :=
  ((coulomb_residue_whole_g K a1).bind fun q1 => ((coulomb_size_g K 1125899906842624 1 (fun j => (selI [a0] j))).bind fun q2 => (bif (!q2.1) then (some (2, ())) else (bif (!q1.1) then (some (2, ())) else (bif (a0 == 1125899906842624) then (bif (!q1.2.1) then (some (2, ())) else (some (0, ()))) else (some (0, ())))))))
noncomputable def coulomb_Check_o (K : Nat) : FO := fnFO coulomb_Check_h coulomb_Check_r fun t => coulomb_Check_g K t.1 t.2.1
theorem coulomb_Check_ok (K : Nat) : FOok Tryz.prog 59 (coulomb_Check_o K) := fnE Bs (coulomb_Check_n K) [] [] (coulomb_Check_k K) trivial 0 Tryz.func59 fun t => by kernel_rfl
/-! cycle_counted_right_1 -/
noncomputable def cycle_counted_right_1_l0h : Sh := ⟨21, [(0, .sc (i6)), (7, .sc (.slr0 0)), (8, .sc (i6)), (9, .sc (i6))], [(0, [])], [(false, true, [r6])]⟩
noncomputable def cycle_counted_right_1_l0x0 : Sh := ⟨21, [], [(0, [])], []⟩
noncomputable def cycle_counted_right_1_l0x1 : Sh := ⟨21, [(4, .sc (.b))], [(0, [])], []⟩
noncomputable def cycle_counted_right_1_l0r (K : Nat) (rec : Int → Nat → Int → Int → (Nat → Int) → Option ((Unit) ⊕ (Bool × Unit))) (a0 : Int) (n1 : Nat) (a2 a3 : Int) (m4 : (Nat → Int)) : Option ((Unit) ⊕ (Bool × Unit)) :=
  (bif (decide (a3 < a2)) then (bif ((decide (0 ≤ a3)) && (decide (a3 < ((n1 : Nat) : Int)))) then (bif (decide ((m4 (Int.toNat a3)) < 0)) then (some (.inr (false, ()))) else (bif (decide ((m4 (Int.toNat a3)) > a0)) then (some (.inr (false, ()))) else (rec a0 n1 a2 (wi64 (a3 + 1)) m4))) else none) else (some (.inl (()))))
noncomputable def cycle_counted_right_1_l0 (K n : Nat) := itN (fun _ _ _ _ _ => none) (cycle_counted_right_1_l0r K) n
noncomputable def cycle_counted_right_1_l0u (K n : Nat) (t : cycle_counted_right_1_l0h.T) : Option ((Unit) ⊕ (Bool × Unit)) :=
  cycle_counted_right_1_l0 K n t.1 t.2.1 t.2.2.1 t.2.2.2.1 t.2.2.2.2.1
noncomputable def cycle_counted_right_1_l0E (K : Nat) : LoopE Tryz.prog := lpE Bs [] [] [] trivial trivial 0 Tryz.func175 2 [] cycle_counted_right_1_l0h (OutI.or (OutI.exit 0 cycle_counted_right_1_l0x0) (OutI.ret cycle_counted_right_1_l0x1)) (fun n t => cycle_counted_right_1_l0u K n t) (fun _ => rfl) (fun n t => by kernel_rfl) K
noncomputable def cycle_counted_right_1_h : Sh := ⟨2, [(0, .sc (i6)), (1, .sc (.slr0 0))], [], [(false, true, [r6])]⟩
noncomputable def cycle_counted_right_1_r : Sh := ⟨1, [(0, .sc (.b))], [], []⟩
noncomputable def cycle_counted_right_1_g (K : Nat) (a0 : Int) (n1 : Nat) (m2 : (Nat → Int)) : Option (Bool × Unit) :=
  ((cycle_counted_right_1_l0 K K a0 n1 ((n1 : Nat) : Int) 0 m2).bind fun q1 => (Sum.elim (fun q2 => (some (true, ()))) (fun q3 => (some (q3.1, ()))) q1))
noncomputable def cycle_counted_right_1_o (K : Nat) : FO := fnFO cycle_counted_right_1_h cycle_counted_right_1_r fun t => cycle_counted_right_1_g K t.1 t.2.1 t.2.2.1
theorem cycle_counted_right_1_ok (K : Nat) : FOok Tryz.prog 175 (cycle_counted_right_1_o K) := fnE Bs [] [] [cycle_counted_right_1_l0E K] trivial trivial 0 Tryz.func175 fun t => by kernel_rfl
/-! cycle_counted_total -/
noncomputable def cycle_counted_total_h : Sh := ⟨1, [(0, .ag [i6, i6, i6, i6, i6, i6, i6, i6, i6, i6, i6, i6, i6, i6, i6, i6, i6, i6, i6, i6, i6, i6, i6])], [], []⟩
noncomputable def cycle_counted_total_r : Sh := ⟨1, [(0, .sc (i6))], [], []⟩
noncomputable def cycle_counted_total_g (K : Nat) (a0 a1 a2 a3 a4 a5 a6 a7 a8 a9 a10 a11 a12 a13 a14 a15 a16 a17 a18 a19 a20 a21 a22 : Int) : Option (Int × Unit) :=
  (some ((wi64 ((wi64 (a11 * 1000)) + a12)), ()))
noncomputable def cycle_counted_total_gu (K : Nat) (t : cycle_counted_total_h.T) : Option (Int × Unit) :=
  let u1 := t.2
  let u2 := u1.2
  let u3 := u2.2
  let u4 := u3.2
  let u5 := u4.2
  let u6 := u5.2
  let u7 := u6.2
  let u8 := u7.2
  let u9 := u8.2
  let u10 := u9.2
  let u11 := u10.2
  let u12 := u11.2
  let u13 := u12.2
  let u14 := u13.2
  let u15 := u14.2
  let u16 := u15.2
  let u17 := u16.2
  let u18 := u17.2
  let u19 := u18.2
  let u20 := u19.2
  let u21 := u20.2
  let u22 := u21.2
  cycle_counted_total_g K t.1 u1.1 u2.1 u3.1 u4.1 u5.1 u6.1 u7.1 u8.1 u9.1 u10.1 u11.1 u12.1 u13.1 u14.1 u15.1 u16.1 u17.1 u18.1 u19.1 u20.1 u21.1 u22.1
noncomputable def cycle_counted_total_o (K : Nat) : FO := fnFO cycle_counted_total_h cycle_counted_total_r fun t => cycle_counted_total_gu K t
theorem cycle_counted_total_ok (K : Nat) : FOok Tryz.prog 142 (cycle_counted_total_o K) := fnE Bs [] [] [] trivial trivial 0 Tryz.func142 fun t => by kernel_rfl
/-! cycle_counted_right -/
noncomputable def cycle_counted_right_n (K : Nat) : List (FuncId × FO) := [(175, cycle_counted_right_1_o K), (142, cycle_counted_total_o K)]
theorem cycle_counted_right_k (K : Nat) : fnsOk Tryz.prog (cycle_counted_right_n K) := ⟨cycle_counted_right_1_ok K, cycle_counted_total_ok K, trivial⟩
noncomputable def cycle_counted_right_h : Sh := ⟨1, [(0, .ag [i6, i6, i6, i6, i6, i6, i6, i6, i6, i6, i6, i6, i6, i6, i6, i6, i6, i6, i6, i6, i6, i6, i6])], [], []⟩
noncomputable def cycle_counted_right_r : Sh := ⟨1, [(0, .sc (.b))], [], []⟩
noncomputable def cycle_counted_right_g (K : Nat) (a0 a1 a2 a3 a4 a5 a6 a7 a8 a9 a10 a11 a12 a13 a14 a15 a16 a17 a18 a19 a20 a21 a22 : Int) : Option (Bool × Unit) :=
  ((cycle_counted_right_1_g K 1125899906842624 3 (fun j => (selI [a11, (wi64 (a8 - 1)), a8] j))).bind fun q1 => (bif q1.1 then ((cycle_counted_right_1_g K 999 1 (fun j => (selI [a12] j))).bind fun q2 => (bif q2.1 then ((cycle_counted_right_1_g K 2147483647 1 (fun j => (selI [a13] j))).bind fun q3 => (bif q3.1 then ((cycle_counted_total_g K a0 a1 a2 a3 a4 a5 a6 a7 a8 a9 a10 a11 a12 a13 a14 a15 a16 a17 a18 a19 a20 a21 a22).bind fun q4 => (some ((decide (q4.1 ≤ 1125899906842624000)), ()))) else (some (false, ())))) else (some (false, ())))) else (some (false, ()))))
noncomputable def cycle_counted_right_gu (K : Nat) (t : cycle_counted_right_h.T) : Option (Bool × Unit) :=
  let u1 := t.2
  let u2 := u1.2
  let u3 := u2.2
  let u4 := u3.2
  let u5 := u4.2
  let u6 := u5.2
  let u7 := u6.2
  let u8 := u7.2
  let u9 := u8.2
  let u10 := u9.2
  let u11 := u10.2
  let u12 := u11.2
  let u13 := u12.2
  let u14 := u13.2
  let u15 := u14.2
  let u16 := u15.2
  let u17 := u16.2
  let u18 := u17.2
  let u19 := u18.2
  let u20 := u19.2
  let u21 := u20.2
  let u22 := u21.2
  cycle_counted_right_g K t.1 u1.1 u2.1 u3.1 u4.1 u5.1 u6.1 u7.1 u8.1 u9.1 u10.1 u11.1 u12.1 u13.1 u14.1 u15.1 u16.1 u17.1 u18.1 u19.1 u20.1 u21.1 u22.1
noncomputable def cycle_counted_right_o (K : Nat) : FO := fnFO cycle_counted_right_h cycle_counted_right_r fun t => cycle_counted_right_gu K t
theorem cycle_counted_right_ok (K : Nat) : FOok Tryz.prog 130 (cycle_counted_right_o K) := fnE Bs (cycle_counted_right_n K) [] [] (cycle_counted_right_k K) trivial 0 Tryz.func130 fun t => by kernel_rfl
/-! cycle_Check -/
noncomputable def cycle_Check_n (K : Nat) : List (FuncId × FO) := [(130, cycle_counted_right_o K)]
theorem cycle_Check_k (K : Nat) : fnsOk Tryz.prog (cycle_Check_n K) := ⟨cycle_counted_right_ok K, trivial⟩
noncomputable def cycle_Check_h : Sh := ⟨1, [(0, .ag [i6, i6, i6, i6, i6, i6, i6, i6, i6, i6, i6, i6, i6, i6, i6, i6, i6, i6, i6, i6, i6, i6, i6])], [], []⟩
noncomputable def cycle_Check_r : Sh := ⟨1, [(0, .sc (i6))], [], []⟩
noncomputable def cycle_Check_g (K : Nat) (a0 a1 a2 a3 a4 a5 a6 a7 a8 a9 a10 a11 a12 a13 a14 a15 a16 a17 a18 a19 a20 a21 a22 : Int) : Option (Int × Unit) :=
  ((cycle_counted_right_g K a0 a1 a2 a3 a4 a5 a6 a7 a8 a9 a10 a11 a12 a13 a14 a15 a16 a17 a18 a19 a20 a21 a22).bind fun q1 => (bif (!q1.1) then (some (2, ())) else (some (0, ()))))
noncomputable def cycle_Check_gu (K : Nat) (t : cycle_Check_h.T) : Option (Int × Unit) :=
  let u1 := t.2
  let u2 := u1.2
  let u3 := u2.2
  let u4 := u3.2
  let u5 := u4.2
  let u6 := u5.2
  let u7 := u6.2
  let u8 := u7.2
  let u9 := u8.2
  let u10 := u9.2
  let u11 := u10.2
  let u12 := u11.2
  let u13 := u12.2
  let u14 := u13.2
  let u15 := u14.2
  let u16 := u15.2
  let u17 := u16.2
  let u18 := u17.2
  let u19 := u18.2
  let u20 := u19.2
  let u21 := u20.2
  let u22 := u21.2
  cycle_Check_g K t.1 u1.1 u2.1 u3.1 u4.1 u5.1 u6.1 u7.1 u8.1 u9.1 u10.1 u11.1 u12.1 u13.1 u14.1 u15.1 u16.1 u17.1 u18.1 u19.1 u20.1 u21.1 u22.1
noncomputable def cycle_Check_o (K : Nat) : FO := fnFO cycle_Check_h cycle_Check_r fun t => cycle_Check_gu K t
theorem cycle_Check_ok (K : Nat) : FOok Tryz.prog 60 (cycle_Check_o K) := fnE Bs (cycle_Check_n K) [] [] (cycle_Check_k K) trivial 0 Tryz.func60 fun t => by kernel_rfl
/-! state_soc -/
noncomputable def state_soc_h : Sh := ⟨0, [], [], []⟩
noncomputable def state_soc_r : Sh := ⟨1, [(0, .ag [i6, i6])], [], []⟩
noncomputable def state_soc_g (K : Nat)  : Option (Int × Int × Unit) :=
  (some (0, 10000, ()))
noncomputable def state_soc_o (K : Nat) : FO := fnFO state_soc_h state_soc_r fun t => state_soc_g K
theorem state_soc_ok (K : Nat) : FOok Tryz.prog 61 (state_soc_o K) := fnE Bs [] [] [] trivial trivial 0 Tryz.func61 fun t => by kernel_rfl
/-! state_charge -/
noncomputable def state_charge_h : Sh := ⟨0, [], [], []⟩
noncomputable def state_charge_r : Sh := ⟨1, [(0, .ag [i6, i6])], [], []⟩
noncomputable def state_charge_g (K : Nat)  : Option (Int × Int × Unit) :=
  (some ((-1125899906842624), 1125899906842624, ()))
noncomputable def state_charge_o (K : Nat) : FO := fnFO state_charge_h state_charge_r fun t => state_charge_g K
theorem state_charge_ok (K : Nat) : FOok Tryz.prog 62 (state_charge_o K) := fnE Bs [] [] [] trivial trivial 0 Tryz.func62 fun t => by kernel_rfl
/-! state_unit -/
noncomputable def state_unit_h : Sh := ⟨0, [], [], []⟩
noncomputable def state_unit_r : Sh := ⟨1, [(0, .ag [i6, i6])], [], []⟩
noncomputable def state_unit_g (K : Nat)  : Option (Int × Int × Unit) :=
  (some ((-2147483648), 2147483648, ()))
noncomputable def state_unit_o (K : Nat) : FO := fnFO state_unit_h state_unit_r fun t => state_unit_g K
theorem state_unit_ok (K : Nat) : FOok Tryz.prog 63 (state_unit_o K) := fnE Bs [] [] [] trivial trivial 0 Tryz.func63 fun t => by kernel_rfl
/-! state_count -/
noncomputable def state_count_h : Sh := ⟨0, [], [], []⟩
noncomputable def state_count_r : Sh := ⟨1, [(0, .ag [i6, i6])], [], []⟩
noncomputable def state_count_g (K : Nat)  : Option (Int × Int × Unit) :=
  (some (0, 4294967295, ()))
noncomputable def state_count_o (K : Nat) : FO := fnFO state_count_h state_count_r fun t => state_count_g K
theorem state_count_ok (K : Nat) : FOok Tryz.prog 64 (state_count_o K) := fnE Bs [] [] [] trivial trivial 0 Tryz.func64 fun t => by kernel_rfl
/-! state_Fits -/
noncomputable def state_Fits_n (K : Nat) : List (FuncId × FO) := [(14, state_Check_o K), (59, coulomb_Check_o K), (60, cycle_Check_o K), (61, state_soc_o K), (53, state_range_has_o K), (62, state_charge_o K), (63, state_unit_o K), (64, state_count_o K)]
theorem state_Fits_k (K : Nat) : fnsOk Tryz.prog (state_Fits_n K) := ⟨state_Check_ok K, coulomb_Check_ok K, cycle_Check_ok K, state_soc_ok K, state_range_has_ok K, state_charge_ok K, state_unit_ok K, state_count_ok K, trivial⟩
noncomputable def state_Fits_h : Sh := ⟨2, [(0, .ag [i6, i6, i6, i6, i6, i6, i6, i6, i6, i6, i6, i6, i6, i6, i6, i6, i6, i6, i6, i6, i6, i6, i6, .slr0 0, .slr0 1, .slr0 2, i6, i6, i6, i6, i6, i6, .b, i6, i6, i6, .b, i6, i6, i6, .b, i6, i6, i6, .b, i6, i6, i6, .b, i6, i6, i6, .b, i6, i6, i6, i6]), (1, .ag [i6, i6, i6, i6, i6, i6, i6, i6, i6, i6, i6, i6, i6, i6, i6, i6, i6, i6, i6, i6, i6, i6, i6])], [], [(false, true, [r6]), (false, true, [r6]), (false, true, [r6])]⟩
noncomputable def state_Fits_r : Sh := ⟨1, [(0, .sc (.b))], [], []⟩
noncomputable def state_Fits_g (K : Nat) (a0 a1 a2 a3 a4 a5 a6 a7 a8 a9 a10 a11 a12 a13 a14 a15 a16 a17 a18 a19 a20 a21 a22 : Int) (n23 n24 n25 : Nat) (a26 a27 a28 a29 a30 a31 : Int) (b32 : Bool) (a33 a34 a35 : Int) (b36 : Bool) (a37 a38 a39 : Int) (b40 : Bool) (a41 a42 a43 : Int) (b44 : Bool) (a45 a46 a47 : Int) (b48 : Bool) (a49 a50 a51 : Int) (b52 : Bool) (a53 a54 a55 a56 a57 a58 a59 a60 a61 a62 a63 a64 a65 a66 a67 a68 a69 a70 a71 a72 a73 a74 a75 a76 a77 a78 a79 : Int) (m80 m81 m82 : (Nat → Int)) : Option (Bool × Unit) :=
  ((state_Check_g K a0 a1 a2 a3 a4 a5 a6 a7 a8 a9 a10 a11 a12 a13 a14 a15 a16 a17 a18 a19 a20 a21 a22 n23 n24 n25 a26 a27 a28 a29 a30 a31 b32 a33 a34 a35 b36 a37 a38 a39 b40 a41 a42 a43 b44 a45 a46 a47 b48 a49 a50 a51 b52 a53 a54 a55 a56 m80 m81 m82).bind fun q1 => (bif (q1.1 != 0) then (some (false, ())) else ((coulomb_Check_g K a57 a58).bind fun q2 => (bif (q2.1 != 0) then (some (false, ())) else ((cycle_Check_g K a57 a58 a59 a60 a61 a62 a63 a64 a65 a66 a67 a68 a69 a70 a71 a72 a73 a74 a75 a76 a77 a78 a79).bind fun q3 => (bif (q3.1 != 0) then (some (false, ())) else ((state_soc_g K).bind fun q4 => ((state_range_has_g K q4.1 q4.2.1 3 (fun j => (selI [a59, a60, (bif (decide (0 > a66)) then 0 else a66)] j))).bind fun q5 => (bif (!q5.1) then (some (false, ())) else (bif (decide (a66 < (-1))) then (some (false, ())) else ((state_charge_g K).bind fun q6 => ((state_range_has_g K q6.1 q6.2.1 2 (fun j => (selI [a61, a67] j))).bind fun q7 => (bif (!q7.1) then (some (false, ())) else ((state_unit_g K).bind fun q8 => ((state_range_has_g K q8.1 q8.2.1 2 (fun j => (selI [a62, a63] j))).bind fun q9 => (bif (!q9.1) then (some (false, ())) else ((state_range_has_g K 0 1125899906842624 1 (fun j => (selI [a64] j))).bind fun q10 => (bif q10.1 then ((state_range_has_g K a28 a29 1 (fun j => (selI [a65] j))).bind fun q11 => (bif q11.1 then ((state_range_has_g K 0 63 1 (fun j => (selI [a71] j))).bind fun q12 => (bif q12.1 then ((state_range_has_g K 0 (wi64 (a55 - 1)) 6 (fun j => (selI [a72, a73, a74, a75, a76, a77] j))).bind fun q13 => (bif q13.1 then ((state_count_g K).bind fun q14 => ((state_range_has_g K q14.1 q14.2.1 2 (fun j => (selI [a78, a79] j))).bind fun q15 => (some (q15.1, ())))) else (some (false, ())))) else (some (false, ())))) else (some (false, ())))) else (some (false, ()))))))))))))))))))))
noncomputable def state_Fits_gu (K : Nat) (t : state_Fits_h.T) : Option (Bool × Unit) :=
  let u1 := t.2
  let u2 := u1.2
  let u3 := u2.2
  let u4 := u3.2
  let u5 := u4.2
  let u6 := u5.2
  let u7 := u6.2
  let u8 := u7.2
  let u9 := u8.2
  let u10 := u9.2
  let u11 := u10.2
  let u12 := u11.2
  let u13 := u12.2
  let u14 := u13.2
  let u15 := u14.2
  let u16 := u15.2
  let u17 := u16.2
  let u18 := u17.2
  let u19 := u18.2
  let u20 := u19.2
  let u21 := u20.2
  let u22 := u21.2
  let u23 := u22.2
  let u24 := u23.2
  let u25 := u24.2
  let u26 := u25.2
  let u27 := u26.2
  let u28 := u27.2
  let u29 := u28.2
  let u30 := u29.2
  let u31 := u30.2
  let u32 := u31.2
  let u33 := u32.2
  let u34 := u33.2
  let u35 := u34.2
  let u36 := u35.2
  let u37 := u36.2
  let u38 := u37.2
  let u39 := u38.2
  let u40 := u39.2
  let u41 := u40.2
  let u42 := u41.2
  let u43 := u42.2
  let u44 := u43.2
  let u45 := u44.2
  let u46 := u45.2
  let u47 := u46.2
  let u48 := u47.2
  let u49 := u48.2
  let u50 := u49.2
  let u51 := u50.2
  let u52 := u51.2
  let u53 := u52.2
  let u54 := u53.2
  let u55 := u54.2
  let u56 := u55.2
  let u57 := u56.2
  let u58 := u57.2
  let u59 := u58.2
  let u60 := u59.2
  let u61 := u60.2
  let u62 := u61.2
  let u63 := u62.2
  let u64 := u63.2
  let u65 := u64.2
  let u66 := u65.2
  let u67 := u66.2
  let u68 := u67.2
  let u69 := u68.2
  let u70 := u69.2
  let u71 := u70.2
  let u72 := u71.2
  let u73 := u72.2
  let u74 := u73.2
  let u75 := u74.2
  let u76 := u75.2
  let u77 := u76.2
  let u78 := u77.2
  let u79 := u78.2
  let u80 := u79.2
  let u81 := u80.2
  let u82 := u81.2
  state_Fits_g K t.1 u1.1 u2.1 u3.1 u4.1 u5.1 u6.1 u7.1 u8.1 u9.1 u10.1 u11.1 u12.1 u13.1 u14.1 u15.1 u16.1 u17.1 u18.1 u19.1 u20.1 u21.1 u22.1 u23.1 u24.1 u25.1 u26.1 u27.1 u28.1 u29.1 u30.1 u31.1 u32.1 u33.1 u34.1 u35.1 u36.1 u37.1 u38.1 u39.1 u40.1 u41.1 u42.1 u43.1 u44.1 u45.1 u46.1 u47.1 u48.1 u49.1 u50.1 u51.1 u52.1 u53.1 u54.1 u55.1 u56.1 u57.1 u58.1 u59.1 u60.1 u61.1 u62.1 u63.1 u64.1 u65.1 u66.1 u67.1 u68.1 u69.1 u70.1 u71.1 u72.1 u73.1 u74.1 u75.1 u76.1 u77.1 u78.1 u79.1 u80.1 u81.1 u82.1
noncomputable def state_Fits_o (K : Nat) : FO := fnFO state_Fits_h state_Fits_r fun t => state_Fits_gu K t
theorem state_Fits_ok (K : Nat) : FOok Tryz.prog 16 (state_Fits_o K) := fnE Bs (state_Fits_n K) [] [] (state_Fits_k K) trivial 0 Tryz.func16 fun t => by kernel_rfl
/-! sample_take -/
noncomputable def sample_take_h : Sh := ⟨1, [(0, .ag [i6, i6, i6, i6])], [], []⟩
noncomputable def sample_take_r : Sh := ⟨1, [(0, .ag [i6, i6, i6, i6])], [], []⟩
noncomputable def sample_take_g (K : Nat) (a0 a1 a2 a3 : Int) : Option (Int × Int × Int × Int × Unit) :=
  (some (a3, a0, a1, a2, ()))
noncomputable def sample_take_gu (K : Nat) (t : sample_take_h.T) : Option (Int × Int × Int × Int × Unit) :=
  sample_take_g K t.1 t.2.1 t.2.2.1 t.2.2.2.1
noncomputable def sample_take_o (K : Nat) : FO := fnFO sample_take_h sample_take_r fun t => sample_take_gu K t
theorem sample_take_ok (K : Nat) : FOok Tryz.prog 78 (sample_take_o K) := fnE Bs [] [] [] trivial trivial 0 Tryz.func78 fun t => by kernel_rfl
/-! sample_ticks_may -/
noncomputable def sample_ticks_may_h : Sh := ⟨1, [(0, .sc (i6))], [], []⟩
noncomputable def sample_ticks_may_r : Sh := ⟨1, [(0, .sc (.b))], [], []⟩
noncomputable def sample_ticks_may_g (K : Nat) (a0 : Int) : Option (Bool × Unit) :=
  (bif (decide (a0 ≥ 1)) then (some ((decide (a0 ≤ 60000)), ())) else (some (false, ())))
noncomputable def sample_ticks_may_o (K : Nat) : FO := fnFO sample_ticks_may_h sample_ticks_may_r fun t => sample_ticks_may_g K t.1
theorem sample_ticks_may_ok (K : Nat) : FOok Tryz.prog 79 (sample_ticks_may_o K) := fnE Bs [] [] [] trivial trivial 0 Tryz.func79 fun t => by kernel_rfl
/-! wide_size -/
noncomputable def wide_size_h : Sh := ⟨1, [(0, .sc (i6))], [], []⟩
noncomputable def wide_size_r : Sh := ⟨1, [(0, .sc (.i .u64))], [], []⟩
noncomputable def wide_size_g (K : Nat) (a0 : Int) : Option (Int × Unit) :=
  (bif (decide (a0 < 0)) then (some ((wu64 (0 - (wu64 (a0)))), ())) else (some ((wu64 (a0)), ())))
noncomputable def wide_size_o (K : Nat) : FO := fnFO wide_size_h wide_size_r fun t => wide_size_g K t.1
theorem wide_size_ok (K : Nat) : FOok Tryz.prog 215 (wide_size_o K) := fnE Bs [] [] [] trivial trivial 0 Tryz.func215 fun t => by kernel_rfl
/-! mb_Mul64 -/
noncomputable def mb_Mul64_h : Sh := ⟨2, [(0, .sc (.i .u64)), (1, .sc (.i .u64))], [], []⟩
noncomputable def mb_Mul64_r : Sh := ⟨2, [(0, .sc (.i .u64)), (1, .sc (.i .u64))], [], []⟩
noncomputable def mb_Mul64_g (K : Nat) (a0 a1 : Int) : Option (Int × Int × Unit) :=
  (some ((wu64 ((wu64 ((wu64 ((shR .u64 a0 32) * (shR .u64 a1 32))) + (shR .u64 (wu64 ((wu64 ((shR .u64 a0 32) * (bitAnd .u64 a1 4294967295))) + (shR .u64 (wu64 ((bitAnd .u64 a0 4294967295) * (bitAnd .u64 a1 4294967295))) 32))) 32))) + (shR .u64 (wu64 ((bitAnd .u64 (wu64 ((wu64 ((shR .u64 a0 32) * (bitAnd .u64 a1 4294967295))) + (shR .u64 (wu64 ((bitAnd .u64 a0 4294967295) * (bitAnd .u64 a1 4294967295))) 32))) 4294967295) + (wu64 ((bitAnd .u64 a0 4294967295) * (shR .u64 a1 32))))) 32))), (wu64 (a0 * a1)), ()))
noncomputable def mb_Mul64_o (K : Nat) : FO := fnFO mb_Mul64_h mb_Mul64_r fun t => mb_Mul64_g K t.1 t.2.1
theorem mb_Mul64_ok (K : Nat) : FOok Tryz.prog 223 (mb_Mul64_o K) := fnE Bs [] [] [] trivial trivial 0 Tryz.func223 fun t => by kernel_rfl
/-! mb_Mul -/
noncomputable def mb_Mul_n (K : Nat) : List (FuncId × FO) := [(223, mb_Mul64_o K)]
theorem mb_Mul_k (K : Nat) : fnsOk Tryz.prog (mb_Mul_n K) := ⟨mb_Mul64_ok K, trivial⟩
noncomputable def mb_Mul_h : Sh := ⟨2, [(0, .sc (.i .u64)), (1, .sc (.i .u64))], [], []⟩
noncomputable def mb_Mul_r : Sh := ⟨2, [(0, .sc (.i .u64)), (1, .sc (.i .u64))], [], []⟩
noncomputable def mb_Mul_g (K : Nat) (a0 a1 : Int) : Option (Int × Int × Unit) :=
  ((mb_Mul64_g K a0 a1).bind fun q1 => (some (q1.1, q1.2.1, ())))
noncomputable def mb_Mul_o (K : Nat) : FO := fnFO mb_Mul_h mb_Mul_r fun t => mb_Mul_g K t.1 t.2.1
theorem mb_Mul_ok (K : Nat) : FOok Tryz.prog 214 (mb_Mul_o K) := fnE Bs (mb_Mul_n K) [] [] (mb_Mul_k K) trivial 0 Tryz.func214 fun t => by kernel_rfl
/-! mb_Sub64 -/
theorem mb_Sub64_x : ExtOk Tryz.prog 227 subRow := ⟨Tryz.f227, Tryz.func227, by kernel_rfl, by kernel_rfl, by kernel_rfl, by kernel_rfl⟩
noncomputable def mb_Sub64_o (K : Nat) : FO := extFO subV
theorem mb_Sub64_ok (K : Nat) : FOok Tryz.prog 227 (mb_Sub64_o K) := sub_ok mb_Sub64_x
/-! mb_Sub -/
noncomputable def mb_Sub_n (K : Nat) : List (FuncId × FO) := [(227, mb_Sub64_o K)]
theorem mb_Sub_k (K : Nat) : fnsOk Tryz.prog (mb_Sub_n K) := ⟨mb_Sub64_ok K, trivial⟩
noncomputable def mb_Sub_h : Sh := ⟨3, [(0, .sc (.i .u64)), (1, .sc (.i .u64)), (2, .sc (.i .u64))], [], []⟩
noncomputable def mb_Sub_r : Sh := ⟨2, [(0, .sc (.i .u64)), (1, .sc (.i .u64))], [], []⟩
noncomputable def mb_Sub_g (K : Nat) (a0 a1 a2 : Int) : Option (Int × Int × Unit) :=
  (bif (decide (a2 ≤ 1)) then (some ((Int.ofNat (((Int.toNat a0) + 18446744073709551616 - (Int.toNat a1) - (Int.toNat a2)) % 18446744073709551616)), (Int.ofNat (bif Nat.blt (Int.toNat a0) ((Int.toNat a1) + (Int.toNat a2)) then 1 else 0)), ())) else none)
noncomputable def mb_Sub_o (K : Nat) : FO := fnFO mb_Sub_h mb_Sub_r fun t => mb_Sub_g K t.1 t.2.1 t.2.2.1
theorem mb_Sub_ok (K : Nat) : FOok Tryz.prog 224 (mb_Sub_o K) := fnE Bs (mb_Sub_n K) [] [] (mb_Sub_k K) trivial 0 Tryz.func224 fun t => by kernel_rfl
/-! wide_Number_minus -/
noncomputable def wide_Number_minus_n (K : Nat) : List (FuncId × FO) := [(224, mb_Sub_o K)]
theorem wide_Number_minus_k (K : Nat) : fnsOk Tryz.prog (wide_Number_minus_n K) := ⟨mb_Sub_ok K, trivial⟩
noncomputable def wide_Number_minus_h : Sh := ⟨1, [(0, .ag [i6, .i .u64])], [], []⟩
noncomputable def wide_Number_minus_r : Sh := ⟨1, [(0, .ag [i6, .i .u64])], [], []⟩
noncomputable def wide_Number_minus_g (K : Nat) (a0 a1 : Int) : Option (Int × Int × Unit) :=
  ((mb_Sub_g K 0 a1 0).bind fun q1 => ((mb_Sub_g K 0 (wu64 (a0)) q1.2.1).bind fun q2 => (some ((wi64 (q2.1)), q1.1, ()))))
noncomputable def wide_Number_minus_o (K : Nat) : FO := fnFO wide_Number_minus_h wide_Number_minus_r fun t => wide_Number_minus_g K t.1 t.2.1
theorem wide_Number_minus_ok (K : Nat) : FOok Tryz.prog 216 (wide_Number_minus_o K) := fnE Bs (wide_Number_minus_n K) [] [] (wide_Number_minus_k K) trivial 0 Tryz.func216 fun t => by kernel_rfl
/-! wide_Mul -/
noncomputable def wide_Mul_n (K : Nat) : List (FuncId × FO) := [(215, wide_size_o K), (214, mb_Mul_o K), (216, wide_Number_minus_o K)]
theorem wide_Mul_k (K : Nat) : fnsOk Tryz.prog (wide_Mul_n K) := ⟨wide_size_ok K, mb_Mul_ok K, wide_Number_minus_ok K, trivial⟩
noncomputable def wide_Mul_h : Sh := ⟨2, [(0, .sc (i6)), (1, .sc (i6))], [], []⟩
noncomputable def wide_Mul_r : Sh := ⟨1, [(0, .ag [i6, .i .u64])], [], []⟩
noncomputable def wide_Mul_g (K : Nat) (a0 a1 : Int) : Option (Int × Int × Unit) :=
  ((wide_size_g K a0).bind fun q1 => ((wide_size_g K a1).bind fun q2 => ((mb_Mul_g K q1.1 q2.1).bind fun q3 => (bif (!((decide (a0 < 0)) == (decide (a1 < 0)))) then ((wide_Number_minus_g K (wi64 (q3.1)) q3.2.1).bind fun q4 => (some (q4.1, q4.2.1, ()))) else (some ((wi64 (q3.1)), q3.2.1, ()))))))
noncomputable def wide_Mul_o (K : Nat) : FO := fnFO wide_Mul_h wide_Mul_r fun t => wide_Mul_g K t.1 t.2.1
theorem wide_Mul_ok (K : Nat) : FOok Tryz.prog 199 (wide_Mul_o K) := fnE Bs (wide_Mul_n K) [] [] (wide_Mul_k K) trivial 0 Tryz.func199 fun t => by kernel_rfl
/-! mb_Len64 -/
noncomputable def mb_Len64_h : Sh := ⟨1, [(0, .sc (.i .u64))], [], []⟩
noncomputable def mb_Len64_r : Sh := ⟨1, [(0, .sc (i6))], [], []⟩
noncomputable def mb_Len64_g (K : Nat) (a0 : Int) : Option (Int × Unit) :=
  (bif (decide (a0 ≥ 4294967296)) then (bif (decide ((shR .u64 a0 32) ≥ 65536)) then (bif (decide ((shR .u64 (shR .u64 a0 32) 16) ≥ 256)) then (bif ((decide (0 ≤ (wu8 ((shR .u64 (shR .u64 (shR .u64 a0 32) 16) 8))))) && (decide ((wu8 ((shR .u64 (shR .u64 (shR .u64 a0 32) 16) 8))) < 256))) then (some ((wi64 (56 + (wi64 ((((tab0.getD (Int.toNat (wu8 ((shR .u64 (shR .u64 (shR .u64 a0 32) 16) 8)))) 0).toNat : Nat) : Int))))), ())) else none) else (bif ((decide (0 ≤ (wu8 ((shR .u64 (shR .u64 a0 32) 16))))) && (decide ((wu8 ((shR .u64 (shR .u64 a0 32) 16))) < 256))) then (some ((wi64 (48 + (wi64 ((((tab0.getD (Int.toNat (wu8 ((shR .u64 (shR .u64 a0 32) 16)))) 0).toNat : Nat) : Int))))), ())) else none)) else (bif (decide ((shR .u64 a0 32) ≥ 256)) then (bif ((decide (0 ≤ (wu8 ((shR .u64 (shR .u64 a0 32) 8))))) && (decide ((wu8 ((shR .u64 (shR .u64 a0 32) 8))) < 256))) then (some ((wi64 (40 + (wi64 ((((tab0.getD (Int.toNat (wu8 ((shR .u64 (shR .u64 a0 32) 8)))) 0).toNat : Nat) : Int))))), ())) else none) else (bif ((decide (0 ≤ (wu8 ((shR .u64 a0 32))))) && (decide ((wu8 ((shR .u64 a0 32))) < 256))) then (some ((wi64 (32 + (wi64 ((((tab0.getD (Int.toNat (wu8 ((shR .u64 a0 32)))) 0).toNat : Nat) : Int))))), ())) else none))) else (bif (decide (a0 ≥ 65536)) then (bif (decide ((shR .u64 a0 16) ≥ 256)) then (bif ((decide (0 ≤ (wu8 ((shR .u64 (shR .u64 a0 16) 8))))) && (decide ((wu8 ((shR .u64 (shR .u64 a0 16) 8))) < 256))) then (some ((wi64 (24 + (wi64 ((((tab0.getD (Int.toNat (wu8 ((shR .u64 (shR .u64 a0 16) 8)))) 0).toNat : Nat) : Int))))), ())) else none) else (bif ((decide (0 ≤ (wu8 ((shR .u64 a0 16))))) && (decide ((wu8 ((shR .u64 a0 16))) < 256))) then (some ((wi64 (16 + (wi64 ((((tab0.getD (Int.toNat (wu8 ((shR .u64 a0 16)))) 0).toNat : Nat) : Int))))), ())) else none)) else (bif (decide (a0 ≥ 256)) then (bif ((decide (0 ≤ (wu8 ((shR .u64 a0 8))))) && (decide ((wu8 ((shR .u64 a0 8))) < 256))) then (some ((wi64 (8 + (wi64 ((((tab0.getD (Int.toNat (wu8 ((shR .u64 a0 8)))) 0).toNat : Nat) : Int))))), ())) else none) else (bif ((decide (0 ≤ (wu8 (a0)))) && (decide ((wu8 (a0)) < 256))) then (some ((wi64 (0 + (wi64 ((((tab0.getD (Int.toNat (wu8 (a0))) 0).toNat : Nat) : Int))))), ())) else none))))
noncomputable def mb_Len64_o (K : Nat) : FO := fnFO mb_Len64_h mb_Len64_r fun t => mb_Len64_g K t.1
theorem mb_Len64_ok (K : Nat) : FOok Tryz.prog 231 (mb_Len64_o K) := fnE Bs [] [] [] trivial trivial 0 Tryz.func231 fun t => by kernel_rfl
/-! mb_LeadingZeros64 -/
noncomputable def mb_LeadingZeros64_n (K : Nat) : List (FuncId × FO) := [(231, mb_Len64_o K)]
theorem mb_LeadingZeros64_k (K : Nat) : fnsOk Tryz.prog (mb_LeadingZeros64_n K) := ⟨mb_Len64_ok K, trivial⟩
noncomputable def mb_LeadingZeros64_h : Sh := ⟨1, [(0, .sc (.i .u64))], [], []⟩
noncomputable def mb_LeadingZeros64_r : Sh := ⟨1, [(0, .sc (i6))], [], []⟩
noncomputable def mb_LeadingZeros64_g (K : Nat) (a0 : Int) : Option (Int × Unit) :=
  ((mb_Len64_g K a0).bind fun q1 => (some ((wi64 (64 - q1.1)), ())))
noncomputable def mb_LeadingZeros64_o (K : Nat) : FO := fnFO mb_LeadingZeros64_h mb_LeadingZeros64_r fun t => mb_LeadingZeros64_g K t.1
theorem mb_LeadingZeros64_ok (K : Nat) : FOok Tryz.prog 230 (mb_LeadingZeros64_o K) := fnE Bs (mb_LeadingZeros64_n K) [] [] (mb_LeadingZeros64_k K) trivial 0 Tryz.func230 fun t => by kernel_rfl
/-! mb_Div64 -/
noncomputable def mb_Div64_n (K : Nat) : List (FuncId × FO) := [(230, mb_LeadingZeros64_o K)]
theorem mb_Div64_k (K : Nat) : fnsOk Tryz.prog (mb_Div64_n K) := ⟨mb_LeadingZeros64_ok K, trivial⟩
noncomputable def mb_Div64_l0h : Sh := ⟨135, [(2, .sc (.i .u64)), (8, .sc (.i .u64)), (9, .sc (.i .u64)), (10, .sc (.i .u64)), (11, .sc (.i .u64)), (13, .sc (.i .u64)), (14, .sc (.i .u64)), (15, .sc (.i .u64)), (16, .sc (.i .u64))], [(0, [])], []⟩
noncomputable def mb_Div64_l0x0 : Sh := ⟨135, [(2, .sc (.i .u64)), (8, .sc (.i .u64)), (9, .sc (.i .u64)), (10, .sc (.i .u64)), (11, .sc (.i .u64)), (13, .sc (.i .u64)), (14, .sc (.i .u64)), (15, .sc (.i .u64))], [(0, [])], []⟩
noncomputable def mb_Div64_l0r (K : Nat) (rec : Int → Int → Int → Int → Int → Int → Int → Int → Int → Option (Int × Int × Int × Int × Int × Int × Int × Int × Unit)) (a0 a1 a2 a3 a4 a5 a6 a7 a8 : Int) : Option (Int × Int × Int × Int × Int × Int × Int × Int × Unit) :=
  (bif (decide (a7 ≥ 4294967296)) then (bif (decide ((wu64 (a8 + a2)) ≥ 4294967296)) then (some (a0, a1, a2, a3, a4, a5, a6, (wu64 (a7 - 1)), ())) else (rec a0 a1 a2 a3 a4 a5 a6 (wu64 (a7 - 1)) (wu64 (a8 + a2)))) else (bif (decide ((wu64 (a7 * a3)) > (wu64 ((wu64 (4294967296 * a8)) + a5)))) then (bif (decide ((wu64 (a8 + a2)) ≥ 4294967296)) then (some (a0, a1, a2, a3, a4, a5, a6, (wu64 (a7 - 1)), ())) else (rec a0 a1 a2 a3 a4 a5 a6 (wu64 (a7 - 1)) (wu64 (a8 + a2)))) else (some (a0, a1, a2, a3, a4, a5, a6, a7, ()))))
noncomputable def mb_Div64_l0 (K n : Nat) := itN (fun _ _ _ _ _ _ _ _ _ => none) (mb_Div64_l0r K) n
noncomputable def mb_Div64_l0u (K n : Nat) (t : mb_Div64_l0h.T) : Option (Int × Int × Int × Int × Int × Int × Int × Int × Unit) :=
  let u1 := t.2
  let u2 := u1.2
  let u3 := u2.2
  let u4 := u3.2
  let u5 := u4.2
  let u6 := u5.2
  let u7 := u6.2
  let u8 := u7.2
  mb_Div64_l0 K n t.1 u1.1 u2.1 u3.1 u4.1 u5.1 u6.1 u7.1 u8.1
noncomputable def mb_Div64_l0E (K : Nat) : LoopE Tryz.prog := lpE Bs (mb_Div64_n K) [] [] (mb_Div64_k K) trivial 0 Tryz.func229 17 [] mb_Div64_l0h (OutI.exit 0 mb_Div64_l0x0) (fun n t => mb_Div64_l0u K n t) (fun _ => rfl) (fun n t => by kernel_rfl) K
noncomputable def mb_Div64_l1h : Sh := ⟨135, [(2, .sc (.i .u64)), (8, .sc (.i .u64)), (9, .sc (.i .u64)), (10, .sc (.i .u64)), (14, .sc (.i .u64)), (15, .sc (.i .u64)), (16, .sc (.i .u64)), (17, .sc (.i .u64)), (18, .sc (.i .u64))], [(0, [])], []⟩
noncomputable def mb_Div64_l1x0 : Sh := ⟨135, [(2, .sc (.i .u64)), (8, .sc (.i .u64)), (14, .sc (.i .u64)), (15, .sc (.i .u64)), (17, .sc (.i .u64)), (18, .sc (.i .u64))], [(0, [])], []⟩
noncomputable def mb_Div64_l1r (K : Nat) (rec : Int → Int → Int → Int → Int → Int → Int → Int → Int → Option (Int × Int × Int × Int × Int × Int × Unit)) (a0 a1 a2 a3 a4 a5 a6 a7 a8 : Int) : Option (Int × Int × Int × Int × Int × Int × Unit) :=
  (bif (decide (a8 ≥ 4294967296)) then (bif (decide ((wu64 (a6 + a2)) ≥ 4294967296)) then (some (a0, a1, a4, a5, a7, (wu64 (a8 - 1)), ())) else (rec a0 a1 a2 a3 a4 a5 (wu64 (a6 + a2)) a7 (wu64 (a8 - 1)))) else (bif (decide ((wu64 (a8 * a3)) > (wu64 ((wu64 (4294967296 * a6)) + a4)))) then (bif (decide ((wu64 (a6 + a2)) ≥ 4294967296)) then (some (a0, a1, a4, a5, a7, (wu64 (a8 - 1)), ())) else (rec a0 a1 a2 a3 a4 a5 (wu64 (a6 + a2)) a7 (wu64 (a8 - 1)))) else (some (a0, a1, a4, a5, a7, a8, ()))))
noncomputable def mb_Div64_l1 (K n : Nat) := itN (fun _ _ _ _ _ _ _ _ _ => none) (mb_Div64_l1r K) n
noncomputable def mb_Div64_l1u (K n : Nat) (t : mb_Div64_l1h.T) : Option (Int × Int × Int × Int × Int × Int × Unit) :=
  let u1 := t.2
  let u2 := u1.2
  let u3 := u2.2
  let u4 := u3.2
  let u5 := u4.2
  let u6 := u5.2
  let u7 := u6.2
  let u8 := u7.2
  mb_Div64_l1 K n t.1 u1.1 u2.1 u3.1 u4.1 u5.1 u6.1 u7.1 u8.1
noncomputable def mb_Div64_l1E (K : Nat) : LoopE Tryz.prog := lpE Bs (mb_Div64_n K) [] [mb_Div64_l0E K] (mb_Div64_k K) trivial 0 Tryz.func229 24 [] mb_Div64_l1h (OutI.exit 2 mb_Div64_l1x0) (fun n t => mb_Div64_l1u K n t) (fun _ => rfl) (fun n t => by kernel_rfl) K
noncomputable def mb_Div64_h : Sh := ⟨3, [(0, .sc (.i .u64)), (1, .sc (.i .u64)), (2, .sc (.i .u64))], [], []⟩
noncomputable def mb_Div64_r : Sh := ⟨2, [(0, .sc (.i .u64)), (1, .sc (.i .u64))], [], []⟩
noncomputable def mb_Div64_g (K : Nat) (a0 a1 a2 : Int) : Option (Int × Int × Unit) :=
  (bif (a2 == 0) then none else (bif (decide (a2 ≤ a0)) then none else (bif (a0 == 0) then (bif (a2 == 0) then none else (bif (a2 == 0) then none else (some ((wu64 (Int.tdiv a1 a2)), (Int.tmod a1 a2), ())))) else ((mb_LeadingZeros64_g K a2).bind fun q1 => (bif (decide ((wu64 (q1.1)) < 0)) then none else (bif (decide ((wu64 (q1.1)) < 0)) then none else (bif (decide ((wu64 (64 - (wu64 (q1.1)))) < 0)) then none else (bif (decide ((wu64 (q1.1)) < 0)) then none else (bif ((shR .u64 (shL .u64 a2 (wu64 (q1.1))) 32) == 0) then none else ((mb_Div64_l0 K K (shL .u64 a2 (wu64 (q1.1))) (wu64 (q1.1)) (shR .u64 (shL .u64 a2 (wu64 (q1.1))) 32) (bitAnd .u64 (shL .u64 a2 (wu64 (q1.1))) 4294967295) (bitOr .u64 (shL .u64 a0 (wu64 (q1.1))) (shR .u64 a1 (wu64 (64 - (wu64 (q1.1)))))) (shR .u64 (shL .u64 a1 (wu64 (q1.1))) 32) (bitAnd .u64 (shL .u64 a1 (wu64 (q1.1))) 4294967295) (wu64 (Int.tdiv (bitOr .u64 (shL .u64 a0 (wu64 (q1.1))) (shR .u64 a1 (wu64 (64 - (wu64 (q1.1)))))) (shR .u64 (shL .u64 a2 (wu64 (q1.1))) 32))) (wu64 ((bitOr .u64 (shL .u64 a0 (wu64 (q1.1))) (shR .u64 a1 (wu64 (64 - (wu64 (q1.1)))))) - (wu64 ((wu64 (Int.tdiv (bitOr .u64 (shL .u64 a0 (wu64 (q1.1))) (shR .u64 a1 (wu64 (64 - (wu64 (q1.1)))))) (shR .u64 (shL .u64 a2 (wu64 (q1.1))) 32))) * (shR .u64 (shL .u64 a2 (wu64 (q1.1))) 32)))))).bind fun q2 => let q2_1 := q2.2; let q2_2 := q2_1.2; let q2_3 := q2_2.2; let q2_4 := q2_3.2; let q2_5 := q2_4.2; let q2_6 := q2_5.2; let q2_7 := q2_6.2; (bif (q2_2.1 == 0) then none else ((mb_Div64_l1 K K q2.1 q2_1.1 q2_2.1 q2_3.1 q2_6.1 q2_7.1 (wu64 ((wu64 ((wu64 ((wu64 (q2_4.1 * 4294967296)) + q2_5.1)) - (wu64 (q2_7.1 * q2.1)))) - (wu64 ((wu64 (Int.tdiv (wu64 ((wu64 ((wu64 (q2_4.1 * 4294967296)) + q2_5.1)) - (wu64 (q2_7.1 * q2.1)))) q2_2.1)) * q2_2.1)))) (wu64 ((wu64 ((wu64 (q2_4.1 * 4294967296)) + q2_5.1)) - (wu64 (q2_7.1 * q2.1)))) (wu64 (Int.tdiv (wu64 ((wu64 ((wu64 (q2_4.1 * 4294967296)) + q2_5.1)) - (wu64 (q2_7.1 * q2.1)))) q2_2.1))).bind fun q3 => let q3_1 := q3.2; let q3_2 := q3_1.2; let q3_3 := q3_2.2; let q3_4 := q3_3.2; let q3_5 := q3_4.2; (bif (decide (q3_1.1 < 0)) then none else (some ((wu64 ((wu64 (q3_3.1 * 4294967296)) + q3_5.1)), (shR .u64 (wu64 ((wu64 ((wu64 (q3_4.1 * 4294967296)) + q3_2.1)) - (wu64 (q3_5.1 * q3.1)))) q3_1.1), ())))))))))))))))
noncomputable def mb_Div64_o (K : Nat) : FO := fnFO mb_Div64_h mb_Div64_r fun t => mb_Div64_g K t.1 t.2.1 t.2.2.1
theorem mb_Div64_ok (K : Nat) : FOok Tryz.prog 229 (mb_Div64_o K) := fnE Bs (mb_Div64_n K) [] [mb_Div64_l0E K, mb_Div64_l1E K] (mb_Div64_k K) trivial 0 Tryz.func229 fun t => by kernel_rfl
/-! mb_Div -/
noncomputable def mb_Div_n (K : Nat) : List (FuncId × FO) := [(229, mb_Div64_o K)]
theorem mb_Div_k (K : Nat) : fnsOk Tryz.prog (mb_Div_n K) := ⟨mb_Div64_ok K, trivial⟩
noncomputable def mb_Div_h : Sh := ⟨3, [(0, .sc (.i .u64)), (1, .sc (.i .u64)), (2, .sc (.i .u64))], [], []⟩
noncomputable def mb_Div_r : Sh := ⟨2, [(0, .sc (.i .u64)), (1, .sc (.i .u64))], [], []⟩
noncomputable def mb_Div_g (K : Nat) (a0 a1 a2 : Int) : Option (Int × Int × Unit) :=
  ((mb_Div64_g K a0 a1 a2).bind fun q1 => (some (q1.1, q1.2.1, ())))
noncomputable def mb_Div_o (K : Nat) : FO := fnFO mb_Div_h mb_Div_r fun t => mb_Div_g K t.1 t.2.1 t.2.2.1
theorem mb_Div_ok (K : Nat) : FOok Tryz.prog 225 (mb_Div_o K) := fnE Bs (mb_Div_n K) [] [] (mb_Div_k K) trivial 0 Tryz.func225 fun t => by kernel_rfl
/-! wide_Number_by -/
noncomputable def wide_Number_by_n (K : Nat) : List (FuncId × FO) := [(216, wide_Number_minus_o K), (225, mb_Div_o K)]
theorem wide_Number_by_k (K : Nat) : fnsOk Tryz.prog (wide_Number_by_n K) := ⟨wide_Number_minus_ok K, mb_Div_ok K, trivial⟩
noncomputable def wide_Number_by_h : Sh := ⟨2, [(0, .ag [i6, .i .u64]), (1, .sc (.i .u64))], [], []⟩
noncomputable def wide_Number_by_r : Sh := ⟨3, [(0, .sc (.i .u64)), (1, .sc (.i .u64)), (2, .sc (.b))], [], []⟩
noncomputable def wide_Number_by_g (K : Nat) (a0 a1 a2 : Int) : Option (Int × Int × Bool × Unit) :=
  (bif (decide (a0 < 0)) then ((wide_Number_minus_g K a0 a1).bind fun q1 => (bif (decide ((wu64 (q1.1)) ≥ a2)) then (some (0, 0, false, ())) else ((mb_Div_g K (wu64 (q1.1)) q1.2.1 a2).bind fun q2 => (some (q2.1, q2.2.1, true, ()))))) else (bif (decide ((wu64 (a0)) ≥ a2)) then (some (0, 0, false, ())) else ((mb_Div_g K (wu64 (a0)) a1 a2).bind fun q3 => (some (q3.1, q3.2.1, true, ())))))
noncomputable def wide_Number_by_o (K : Nat) : FO := fnFO wide_Number_by_h wide_Number_by_r fun t => wide_Number_by_g K t.1 t.2.1 t.2.2.1
theorem wide_Number_by_ok (K : Nat) : FOok Tryz.prog 220 (wide_Number_by_o K) := fnE Bs (wide_Number_by_n K) [] [] (wide_Number_by_k K) trivial 0 Tryz.func220 fun t => by kernel_rfl
/-! wide_signed -/
noncomputable def wide_signed_h : Sh := ⟨2, [(0, .sc (.i .u64)), (1, .sc (.b))], [], []⟩
noncomputable def wide_signed_r : Sh := ⟨2, [(0, .sc (i6)), (1, .sc (.b))], [], []⟩
noncomputable def wide_signed_g (K : Nat) (a0 : Int) (b1 : Bool) : Option (Int × Bool × Unit) :=
  (bif b1 then (some ((wi64 ((wu64 (0 - a0)))), (decide (a0 ≤ 9223372036854775808)), ())) else (some ((wi64 (a0)), (decide (a0 < 9223372036854775808)), ())))
noncomputable def wide_signed_o (K : Nat) : FO := fnFO wide_signed_h wide_signed_r fun t => wide_signed_g K t.1 t.2.1
theorem wide_signed_ok (K : Nat) : FOok Tryz.prog 221 (wide_signed_o K) := fnE Bs [] [] [] trivial trivial 0 Tryz.func221 fun t => by kernel_rfl
/-! wide_Near -/
noncomputable def wide_Near_n (K : Nat) : List (FuncId × FO) := [(220, wide_Number_by_o K), (221, wide_signed_o K)]
theorem wide_Near_k (K : Nat) : fnsOk Tryz.prog (wide_Near_n K) := ⟨wide_Number_by_ok K, wide_signed_ok K, trivial⟩
noncomputable def wide_Near_i : List (FuncId × Func) := [(212, Tryz.f212), (213, Tryz.f213)]
theorem wide_Near_j : inlOk Tryz.prog wide_Near_i := ⟨⟨Tryz.func212, by kernel_rfl⟩, ⟨Tryz.func213, by kernel_rfl⟩, trivial⟩
noncomputable def wide_Near_h : Sh := ⟨2, [(0, .ag [i6, .i .u64]), (1, .sc (i6))], [], []⟩
noncomputable def wide_Near_r : Sh := ⟨2, [(0, .sc (i6)), (1, .sc (i6))], [], []⟩
noncomputable def wide_Near_g (K : Nat) (a0 a1 a2 : Int) : Option (Int × Int × Unit) :=
  (bif (decide (a2 < 1)) then (some (0, 2, ())) else ((wide_Number_by_g K a0 a1 (wu64 (a2))).bind fun q1 => (bif (!q1.2.2.1) then (some (0, 3, ())) else (bif (decide (q1.1 > 9223372036854775808)) then (some (0, 3, ())) else (bif (decide (q1.2.1 ≥ (wu64 ((wu64 (a2)) - q1.2.1)))) then ((wide_signed_g K (wu64 (q1.1 + 1)) (decide (a0 < 0))).bind fun q2 => (bif (!q2.2.1) then (some (0, 3, ())) else (some (q2.1, 0, ())))) else ((wide_signed_g K q1.1 (decide (a0 < 0))).bind fun q3 => (bif (!q3.2.1) then (some (0, 3, ())) else (some (q3.1, 0, ())))))))))
noncomputable def wide_Near_o (K : Nat) : FO := fnFO wide_Near_h wide_Near_r fun t => wide_Near_g K t.1 t.2.1 t.2.2.1
theorem wide_Near_ok (K : Nat) : FOok Tryz.prog 198 (wide_Near_o K) := fnE Bs (wide_Near_n K) wide_Near_i [] (wide_Near_k K) wide_Near_j 9 Tryz.func198 fun t => by kernel_rfl
/-! wide_MulNear -/
noncomputable def wide_MulNear_n (K : Nat) : List (FuncId × FO) := [(199, wide_Mul_o K), (198, wide_Near_o K)]
theorem wide_MulNear_k (K : Nat) : fnsOk Tryz.prog (wide_MulNear_n K) := ⟨wide_Mul_ok K, wide_Near_ok K, trivial⟩
noncomputable def wide_MulNear_h : Sh := ⟨3, [(0, .sc (i6)), (1, .sc (i6)), (2, .sc (i6))], [], []⟩
noncomputable def wide_MulNear_r : Sh := ⟨2, [(0, .sc (i6)), (1, .sc (i6))], [], []⟩
noncomputable def wide_MulNear_g (K : Nat) (a0 a1 a2 : Int) : Option (Int × Int × Unit) :=
  ((wide_Mul_g K a0 a1).bind fun q1 => ((wide_Near_g K q1.1 q1.2.1 a2).bind fun q2 => (some (q2.1, q2.2.1, ()))))
noncomputable def wide_MulNear_o (K : Nat) : FO := fnFO wide_MulNear_h wide_MulNear_r fun t => wide_MulNear_g K t.1 t.2.1 t.2.2.1
theorem wide_MulNear_ok (K : Nat) : FOok Tryz.prog 178 (wide_MulNear_o K) := fnE Bs (wide_MulNear_n K) [] [] (wide_MulNear_k K) trivial 0 Tryz.func178 fun t => by kernel_rfl
/-! fx_bound -/
noncomputable def fx_bound_h : Sh := ⟨1, [(0, .sc (i6))], [], []⟩
noncomputable def fx_bound_r : Sh := ⟨1, [(0, .sc (i6))], [], []⟩
noncomputable def fx_bound_g (K : Nat) (a0 : Int) : Option (Int × Unit) :=
  (bif (decide (a0 < 1)) then (some (2, ())) else (bif (decide (a0 > 2305843009213693952)) then (some (2, ())) else (some (0, ()))))
noncomputable def fx_bound_o (K : Nat) : FO := fnFO fx_bound_h fx_bound_r fun t => fx_bound_g K t.1
theorem fx_bound_ok (K : Nat) : FOok Tryz.prog 182 (fx_bound_o K) := fnE Bs [] [] [] trivial trivial 0 Tryz.func182 fun t => by kernel_rfl
/-! fx_Between -/
noncomputable def fx_Between_h : Sh := ⟨3, [(0, .sc (i6)), (1, .sc (i6)), (2, .sc (i6))], [], []⟩
noncomputable def fx_Between_r : Sh := ⟨1, [(0, .sc (i6))], [], []⟩
noncomputable def fx_Between_g (K : Nat) (a0 a1 a2 : Int) : Option (Int × Unit) :=
  (bif (decide (a2 < a0)) then (some (a0, ())) else (bif (decide (a2 > a1)) then (some (a1, ())) else (some (a2, ()))))
noncomputable def fx_Between_o (K : Nat) : FO := fnFO fx_Between_h fx_Between_r fun t => fx_Between_g K t.1 t.2.1 t.2.2.1
theorem fx_Between_ok (K : Nat) : FOok Tryz.prog 157 (fx_Between_o K) := fnE Bs [] [] [] trivial trivial 0 Tryz.func157 fun t => by kernel_rfl
/-! fx_Clamp -/
noncomputable def fx_Clamp_n (K : Nat) : List (FuncId × FO) := [(182, fx_bound_o K), (157, fx_Between_o K)]
theorem fx_Clamp_k (K : Nat) : fnsOk Tryz.prog (fx_Clamp_n K) := ⟨fx_bound_ok K, fx_Between_ok K, trivial⟩
noncomputable def fx_Clamp_h : Sh := ⟨2, [(0, .sc (i6)), (1, .sc (i6))], [], []⟩
noncomputable def fx_Clamp_r : Sh := ⟨2, [(0, .sc (i6)), (1, .sc (i6))], [], []⟩
noncomputable def fx_Clamp_g (K : Nat) (a0 a1 : Int) : Option (Int × Int × Unit) :=
  ((fx_bound_g K a0).bind fun q1 => (bif (q1.1 != 0) then (some (0, q1.1, ())) else ((fx_Between_g K (wi64 (0 - a0)) a0 a1).bind fun q2 => (some (q2.1, 0, ())))))
noncomputable def fx_Clamp_o (K : Nat) : FO := fnFO fx_Clamp_h fx_Clamp_r fun t => fx_Clamp_g K t.1 t.2.1
theorem fx_Clamp_ok (K : Nat) : FOok Tryz.prog 179 (fx_Clamp_o K) := fnE Bs (fx_Clamp_n K) [] [] (fx_Clamp_k K) trivial 0 Tryz.func179 fun t => by kernel_rfl
/-! adc_told_unit -/
noncomputable def adc_told_unit_n (K : Nat) : List (FuncId × FO) := [(178, wide_MulNear_o K), (179, fx_Clamp_o K)]
theorem adc_told_unit_k (K : Nat) : fnsOk Tryz.prog (adc_told_unit_n K) := ⟨wide_MulNear_ok K, fx_Clamp_ok K, trivial⟩
noncomputable def adc_told_unit_h : Sh := ⟨1, [(0, .ag [i6, i6, i6, i6])], [], []⟩
noncomputable def adc_told_unit_r : Sh := ⟨1, [(0, .sc (i6))], [], []⟩
noncomputable def adc_told_unit_g (K : Nat) (a0 a1 a2 a3 : Int) : Option (Int × Unit) :=
  ((wide_MulNear_g K (wi64 (a3 - a0)) a1 a2).bind fun q1 => ((fx_Clamp_g K 2147483648 q1.1).bind fun q2 => (some (q2.1, ()))))
noncomputable def adc_told_unit_gu (K : Nat) (t : adc_told_unit_h.T) : Option (Int × Unit) :=
  adc_told_unit_g K t.1 t.2.1 t.2.2.1 t.2.2.2.1
noncomputable def adc_told_unit_o (K : Nat) : FO := fnFO adc_told_unit_h adc_told_unit_r fun t => adc_told_unit_gu K t
theorem adc_told_unit_ok (K : Nat) : FOok Tryz.prog 137 (adc_told_unit_o K) := fnE Bs (adc_told_unit_n K) [] [] (adc_told_unit_k K) trivial 0 Tryz.func137 fun t => by kernel_rfl
/-! adc_Unit -/
noncomputable def adc_Unit_n (K : Nat) : List (FuncId × FO) := [(113, adc_Check_o K), (136, adc_raw_o K), (137, adc_told_unit_o K)]
theorem adc_Unit_k (K : Nat) : fnsOk Tryz.prog (adc_Unit_n K) := ⟨adc_Check_ok K, adc_raw_ok K, adc_told_unit_ok K, trivial⟩
noncomputable def adc_Unit_h : Sh := ⟨2, [(0, .ag [i6, i6, i6]), (1, .sc (i6))], [], []⟩
noncomputable def adc_Unit_r : Sh := ⟨2, [(0, .sc (i6)), (1, .sc (i6))], [], []⟩
noncomputable def adc_Unit_g (K : Nat) (a0 a1 a2 a3 : Int) : Option (Int × Int × Unit) :=
  ((adc_Check_g K a0 a1 a2).bind fun q1 => (bif (q1.1 != 0) then (some (0, q1.1, ())) else ((adc_raw_g K 1 (fun j => (selI [a3] j))).bind fun q2 => (bif (!q2.1) then (some (0, 2, ())) else ((adc_told_unit_g K a0 a1 a2 a3).bind fun q3 => (some (q3.1, 0, ())))))))
noncomputable def adc_Unit_gu (K : Nat) (t : adc_Unit_h.T) : Option (Int × Int × Unit) :=
  adc_Unit_g K t.1 t.2.1 t.2.2.1 t.2.2.2.1
noncomputable def adc_Unit_o (K : Nat) : FO := fnFO adc_Unit_h adc_Unit_r fun t => adc_Unit_gu K t
theorem adc_Unit_ok (K : Nat) : FOok Tryz.prog 80 (adc_Unit_o K) := fnE Bs (adc_Unit_n K) [] [] (adc_Unit_k K) trivial 0 Tryz.func80 fun t => by kernel_rfl
/-! sample_Read -/
noncomputable def sample_Read_n (K : Nat) : List (FuncId × FO) := [(48, sample_Check_o K), (78, sample_take_o K), (79, sample_ticks_may_o K), (80, adc_Unit_o K), (81, sample_Inside_o K)]
theorem sample_Read_k (K : Nat) : fnsOk Tryz.prog (sample_Read_n K) := ⟨sample_Check_ok K, sample_take_ok K, sample_ticks_may_ok K, adc_Unit_ok K, sample_Inside_ok K, trivial⟩
noncomputable def sample_Read_l0h : Sh := ⟨63, [(3, .sc (.lit (.p 0 0 0 []))), (4, .sc (.lit (.p 1 0 0 []))), (6, .sc (.lit (.p 2 0 0 []))), (10, .sc (.lit (.p 3 0 0 []))), (33, .ag [i6, i6, i6]), (34, .sc (i6))], [(0, [])], [(true, false, [i6, i6, i6, i6, i6, i6, i6, i6, i6]), (true, false, [i6, i6, i6, i6, i6, i6]), (true, false, [i6, i6, i6, i6]), (true, false, [i6, i6, i6, i6])]⟩
noncomputable def sample_Read_l0x0 : Sh := ⟨63, [(6, .sc (.lit (.p 0 0 0 []))), (10, .sc (.lit (.p 1 0 0 [])))], [(0, [])], [(true, false, [i6, i6, i6, i6]), (true, false, [i6, i6, i6, i6])]⟩
noncomputable def sample_Read_l0x1 : Sh := ⟨63, [(6, .sc (.lit (.p 0 0 0 []))), (7, .sc (i6))], [(0, [])], [(true, false, [i6, i6, i6, i6])]⟩
noncomputable def sample_Read_l0r (K : Nat) (rec : Int → Int → Int → Int → Int → Int → Int → Int → Int → Int → Int → Int → Int → Int → Int → Int → Int → Int → Int → Int → Int → Int → Int → Int → Int → Int → Int → Option ((Int × Int × Int × Int × Int × Int × Int × Int × Unit) ⊕ (Int × Int × Int × Int × Int × Unit))) (a0 a1 a2 a3 a4 a5 a6 a7 a8 a9 a10 a11 a12 a13 a14 a15 a16 a17 a18 a19 a20 a21 a22 a23 a24 a25 a26 : Int) : Option ((Int × Int × Int × Int × Int × Int × Int × Int × Unit) ⊕ (Int × Int × Int × Int × Int × Unit)) :=
  (bif (decide (a3 < 3)) then (bif ((decide (0 ≤ a3)) && (decide (a3 < 3))) then (bif ((decide (0 ≤ a3)) && (decide (a3 < 3))) then ((adc_Unit_g K (selI [a4, a7, a10] (Int.toNat a3)) (selI [a5, a8, a11] (Int.toNat a3)) (selI [a6, a9, a12] (Int.toNat a3)) (selI [a0, a1, a2] (Int.toNat a3))).bind fun q1 => (bif (q1.2.1 != 0) then (some (.inr (130, 0, 0, 0, 0, ()))) else (bif ((decide (0 ≤ a3)) && (decide (a3 < 3))) then ((sample_Inside_g K (selI [a13, a15, a17] (Int.toNat a3)) (selI [a14, a16, a18] (Int.toNat a3)) q1.1).bind fun q2 => (bif (!q2.1) then (some (.inr (130, 0, 0, 0, 0, ()))) else (bif ((decide (0 ≤ a3)) && (decide (a3 < 3))) then (rec a0 a1 a2 (wi64 (a3 + 1)) a4 a5 a6 a7 a8 a9 a10 a11 a12 a13 a14 a15 a16 a17 a18 a19 a20 a21 a22 (bif (Nat.beq (Int.toNat a3) 0) then q1.1 else a23) (bif (Nat.beq (Int.toNat a3) 1) then q1.1 else a24) (bif (Nat.beq (Int.toNat a3) 2) then q1.1 else a25) a26) else none))) else none))) else none) else none) else (some (.inl (a19, a20, a21, a22, a23, a24, a25, a26, ()))))
noncomputable def sample_Read_l0 (K n : Nat) := itN (fun _ _ _ _ _ _ _ _ _ _ _ _ _ _ _ _ _ _ _ _ _ _ _ _ _ _ _ => none) (sample_Read_l0r K) n
noncomputable def sample_Read_l0u (K n : Nat) (t : sample_Read_l0h.T) : Option ((Int × Int × Int × Int × Int × Int × Int × Int × Unit) ⊕ (Int × Int × Int × Int × Int × Unit)) :=
  let u1 := t.2
  let u2 := u1.2
  let u3 := u2.2
  let u4 := u3.2
  let u5 := u4.2
  let u6 := u5.2
  let u7 := u6.2
  let u8 := u7.2
  let u9 := u8.2
  let u10 := u9.2
  let u11 := u10.2
  let u12 := u11.2
  let u13 := u12.2
  let u14 := u13.2
  let u15 := u14.2
  let u16 := u15.2
  let u17 := u16.2
  let u18 := u17.2
  let u19 := u18.2
  let u20 := u19.2
  let u21 := u20.2
  let u22 := u21.2
  let u23 := u22.2
  let u24 := u23.2
  let u25 := u24.2
  let u26 := u25.2
  sample_Read_l0 K n t.1 u1.1 u2.1 u3.1 u4.1 u5.1 u6.1 u7.1 u8.1 u9.1 u10.1 u11.1 u12.1 u13.1 u14.1 u15.1 u16.1 u17.1 u18.1 u19.1 u20.1 u21.1 u22.1 u23.1 u24.1 u25.1 u26.1
noncomputable def sample_Read_l0E (K : Nat) : LoopE Tryz.prog := lpE Bs (sample_Read_n K) [] [] (sample_Read_k K) trivial 0 Tryz.func28 9 [] sample_Read_l0h (OutI.or (OutI.exit 0 sample_Read_l0x0) (OutI.ret sample_Read_l0x1)) (fun n t => sample_Read_l0u K n t) (fun _ => rfl) (fun n t => by kernel_rfl) K
noncomputable def sample_Read_h : Sh := ⟨3, [(0, .ag [i6, i6, i6, i6, i6, i6, i6, i6, i6]), (1, .ag [i6, i6, i6, i6, i6, i6]), (2, .ag [i6, i6, i6, i6])], [], []⟩
noncomputable def sample_Read_r : Sh := ⟨2, [(0, .ag [i6, i6, i6, i6]), (1, .sc (i6))], [], []⟩
noncomputable def sample_Read_g (K : Nat) (a0 a1 a2 a3 a4 a5 a6 a7 a8 a9 a10 a11 a12 a13 a14 a15 a16 a17 a18 : Int) : Option (Int × Int × Int × Int × Int × Unit) :=
  ((sample_Check_g K a0 a1 a2 a3 a4 a5 a6 a7 a8 a9 a10 a11 a12 a13 a14).bind fun q1 => (bif (q1.1 != 0) then (some (0, 0, 0, 0, q1.1, ())) else ((sample_take_g K a15 a16 a17 a18).bind fun q2 => ((sample_ticks_may_g K q2.1).bind fun q3 => (bif (!q3.1) then (some (0, 0, 0, 0, 130, ())) else ((sample_Read_l0 K K q2.2.1 q2.2.2.1 q2.2.2.2.1 0 a0 a1 a2 a3 a4 a5 a6 a7 a8 a9 a10 a11 a12 a13 a14 0 0 0 0 0 0 0 a18).bind fun q4 => (Sum.elim (fun q5 => let q5_1 := q5.2; let q5_2 := q5_1.2; let q5_3 := q5_2.2; let q5_4 := q5_3.2; let q5_5 := q5_4.2; let q5_6 := q5_5.2; let q5_7 := q5_6.2; (some (q5_4.1, q5_5.1, q5_6.1, q5_7.1, 0, ()))) (fun q6 => (some (q6.2.1, q6.2.2.1, q6.2.2.2.1, q6.2.2.2.2.1, q6.1, ()))) q4)))))))
noncomputable def sample_Read_gu (K : Nat) (t : sample_Read_h.T) : Option (Int × Int × Int × Int × Int × Unit) :=
  let u1 := t.2
  let u2 := u1.2
  let u3 := u2.2
  let u4 := u3.2
  let u5 := u4.2
  let u6 := u5.2
  let u7 := u6.2
  let u8 := u7.2
  let u9 := u8.2
  let u10 := u9.2
  let u11 := u10.2
  let u12 := u11.2
  let u13 := u12.2
  let u14 := u13.2
  let u15 := u14.2
  let u16 := u15.2
  let u17 := u16.2
  let u18 := u17.2
  sample_Read_g K t.1 u1.1 u2.1 u3.1 u4.1 u5.1 u6.1 u7.1 u8.1 u9.1 u10.1 u11.1 u12.1 u13.1 u14.1 u15.1 u16.1 u17.1 u18.1
noncomputable def sample_Read_o (K : Nat) : FO := fnFO sample_Read_h sample_Read_r fun t => sample_Read_gu K t
theorem sample_Read_ok (K : Nat) : FOok Tryz.prog 28 (sample_Read_o K) := fnE Bs (sample_Read_n K) [] [sample_Read_l0E K] (sample_Read_k K) trivial 0 Tryz.func28 fun t => by kernel_rfl
/-! coulomb_sum_total -/
noncomputable def coulomb_sum_total_h : Sh := ⟨1, [(0, .ag [i6, i6])], [], []⟩
noncomputable def coulomb_sum_total_r : Sh := ⟨1, [(0, .sc (i6))], [], []⟩
noncomputable def coulomb_sum_total_g (K : Nat) (a0 a1 : Int) : Option (Int × Unit) :=
  (some ((wi64 ((wi64 (a1 * 1000)) + a0)), ()))
noncomputable def coulomb_sum_total_o (K : Nat) : FO := fnFO coulomb_sum_total_h coulomb_sum_total_r fun t => coulomb_sum_total_g K t.1 t.2.1
theorem coulomb_sum_total_ok (K : Nat) : FOok Tryz.prog 180 (coulomb_sum_total_o K) := fnE Bs [] [] [] trivial trivial 0 Tryz.func180 fun t => by kernel_rfl
/-! coulomb_Total -/
noncomputable def coulomb_Total_n (K : Nat) : List (FuncId × FO) := [(59, coulomb_Check_o K), (180, coulomb_sum_total_o K)]
theorem coulomb_Total_k (K : Nat) : fnsOk Tryz.prog (coulomb_Total_n K) := ⟨coulomb_Check_ok K, coulomb_sum_total_ok K, trivial⟩
noncomputable def coulomb_Total_h : Sh := ⟨2, [(0, .sc (i6)), (1, .sc (i6))], [], []⟩
noncomputable def coulomb_Total_r : Sh := ⟨2, [(0, .sc (i6)), (1, .sc (i6))], [], []⟩
noncomputable def coulomb_Total_g (K : Nat) (a0 a1 : Int) : Option (Int × Int × Unit) :=
  ((coulomb_Check_g K a0 a1).bind fun q1 => (bif (q1.1 != 0) then (some (0, q1.1, ())) else ((coulomb_sum_total_g K a1 a0).bind fun q2 => (some (q2.1, 0, ())))))
noncomputable def coulomb_Total_o (K : Nat) : FO := fnFO coulomb_Total_h coulomb_Total_r fun t => coulomb_Total_g K t.1 t.2.1
theorem coulomb_Total_ok (K : Nat) : FOok Tryz.prog 138 (coulomb_Total_o K) := fnE Bs (coulomb_Total_n K) [] [] (coulomb_Total_k K) trivial 0 Tryz.func138 fun t => by kernel_rfl
/-! fx_Sum -/
noncomputable def fx_Sum_n (K : Nat) : List (FuncId × FO) := [(182, fx_bound_o K), (157, fx_Between_o K)]
theorem fx_Sum_k (K : Nat) : fnsOk Tryz.prog (fx_Sum_n K) := ⟨fx_bound_ok K, fx_Between_ok K, trivial⟩
noncomputable def fx_Sum_l0h : Sh := ⟨34, [(0, .sc (i6)), (7, .sc (i6)), (15, .sc (.slr0 0)), (16, .sc (i6)), (17, .sc (i6))], [(0, [])], [(false, true, [r6])]⟩
noncomputable def fx_Sum_l0x0 : Sh := ⟨34, [(7, .sc (i6))], [(0, [])], []⟩
noncomputable def fx_Sum_l0r (K : Nat) (rec : Int → Int → Nat → Int → Int → (Nat → Int) → Option (Int × Unit)) (a0 a1 : Int) (n2 : Nat) (a3 a4 : Int) (m5 : (Nat → Int)) : Option (Int × Unit) :=
  (bif (decide (a4 < a3)) then (bif ((decide (0 ≤ a4)) && (decide (a4 < ((n2 : Nat) : Int)))) then ((fx_Between_g K (wi64 ((wi64 (0 - a0)) - a1)) (wi64 (a0 - a1)) (m5 (Int.toNat a4))).bind fun q1 => (rec a0 (wi64 (a1 + q1.1)) n2 a3 (wi64 (a4 + 1)) m5)) else none) else (some (a1, ())))
noncomputable def fx_Sum_l0 (K n : Nat) := itN (fun _ _ _ _ _ _ => none) (fx_Sum_l0r K) n
noncomputable def fx_Sum_l0u (K n : Nat) (t : fx_Sum_l0h.T) : Option (Int × Unit) :=
  fx_Sum_l0 K n t.1 t.2.1 t.2.2.1 t.2.2.2.1 t.2.2.2.2.1 t.2.2.2.2.2.1
noncomputable def fx_Sum_l0E (K : Nat) : LoopE Tryz.prog := lpE Bs (fx_Sum_n K) [] [] (fx_Sum_k K) trivial 0 Tryz.func141 6 [] fx_Sum_l0h (OutI.exit 0 fx_Sum_l0x0) (fun n t => fx_Sum_l0u K n t) (fun _ => rfl) (fun n t => by kernel_rfl) K
noncomputable def fx_Sum_h : Sh := ⟨2, [(0, .sc (i6)), (1, .sc (.slr0 0))], [], [(false, true, [r6])]⟩
noncomputable def fx_Sum_r : Sh := ⟨2, [(0, .sc (i6)), (1, .sc (i6))], [], []⟩
noncomputable def fx_Sum_g (K : Nat) (a0 : Int) (n1 : Nat) (m2 : (Nat → Int)) : Option (Int × Int × Unit) :=
  ((fx_bound_g K a0).bind fun q1 => (bif (q1.1 != 0) then (some (0, q1.1, ())) else ((fx_Sum_l0 K K a0 0 n1 ((n1 : Nat) : Int) 0 m2).bind fun q2 => (some (q2.1, 0, ())))))
noncomputable def fx_Sum_o (K : Nat) : FO := fnFO fx_Sum_h fx_Sum_r fun t => fx_Sum_g K t.1 t.2.1 t.2.2.1
theorem fx_Sum_ok (K : Nat) : FOok Tryz.prog 141 (fx_Sum_o K) := fnE Bs (fx_Sum_n K) [] [fx_Sum_l0E K] (fx_Sum_k K) trivial 0 Tryz.func141 fun t => by kernel_rfl
/-! fx_Down_1 -/
noncomputable def fx_Down_1_h : Sh := ⟨2, [(0, .sc (i6)), (1, .sc (i6))], [], []⟩
noncomputable def fx_Down_1_r : Sh := ⟨1, [(0, .sc (.b))], [], []⟩
noncomputable def fx_Down_1_g (K : Nat) (a0 a1 : Int) : Option (Bool × Unit) :=
  (some (false, ()))
noncomputable def fx_Down_1_o (K : Nat) : FO := fnFO fx_Down_1_h fx_Down_1_r fun t => fx_Down_1_g K t.1 t.2.1
theorem fx_Down_1_ok (K : Nat) : FOok Tryz.prog 201 (fx_Down_1_o K) := fnE Bs [] [] [] trivial trivial 0 Tryz.func201 fun t => by kernel_rfl
/-! fx_Down -/
noncomputable def fx_Down_n (K : Nat) : List (FuncId × FO) := [(201, fx_Down_1_o K)]
theorem fx_Down_k (K : Nat) : fnsOk Tryz.prog (fx_Down_n K) := ⟨fx_Down_1_ok K, trivial⟩
noncomputable def fx_Down_i : List (FuncId × Func) := [(200, Tryz.f200)]
theorem fx_Down_j : inlOk Tryz.prog fx_Down_i := ⟨⟨Tryz.func200, by kernel_rfl⟩, trivial⟩
noncomputable def fx_Down_h : Sh := ⟨2, [(0, .sc (i6)), (1, .sc (i6))], [], []⟩
noncomputable def fx_Down_r : Sh := ⟨2, [(0, .sc (i6)), (1, .sc (i6))], [], []⟩
noncomputable def fx_Down_g (K : Nat) (a0 a1 : Int) : Option (Int × Int × Unit) :=
  (bif (decide (a1 < 1)) then (some (0, 2, ())) else (bif (a1 == 0) then none else (bif (a1 == 0) then none else (bif (decide ((Int.tmod a0 a1) < 0)) then ((fx_Down_1_g K (wi64 ((wi64 (Int.tdiv a0 a1)) - 1)) (wi64 ((Int.tmod a0 a1) + a1))).bind fun q1 => (bif q1.1 then (some ((wi64 ((wi64 ((wi64 (Int.tdiv a0 a1)) - 1)) + 1)), 0, ())) else (some ((wi64 ((wi64 (Int.tdiv a0 a1)) - 1)), 0, ())))) else ((fx_Down_1_g K (wi64 (Int.tdiv a0 a1)) (Int.tmod a0 a1)).bind fun q2 => (bif q2.1 then (some ((wi64 ((wi64 (Int.tdiv a0 a1)) + 1)), 0, ())) else (some ((wi64 (Int.tdiv a0 a1)), 0, ()))))))))
noncomputable def fx_Down_o (K : Nat) : FO := fnFO fx_Down_h fx_Down_r fun t => fx_Down_g K t.1 t.2.1
theorem fx_Down_ok (K : Nat) : FOok Tryz.prog 181 (fx_Down_o K) := fnE Bs (fx_Down_n K) fx_Down_i [] (fx_Down_k K) fx_Down_j 9 Tryz.func181 fun t => by kernel_rfl
/-! coulomb_of -/
noncomputable def coulomb_of_n (K : Nat) : List (FuncId × FO) := [(141, fx_Sum_o K), (181, fx_Down_o K)]
theorem coulomb_of_k (K : Nat) : fnsOk Tryz.prog (coulomb_of_n K) := ⟨fx_Sum_ok K, fx_Down_ok K, trivial⟩
noncomputable def coulomb_of_h : Sh := ⟨1, [(0, .sc (.slr0 0))], [], [(false, true, [r6])]⟩
noncomputable def coulomb_of_r : Sh := ⟨1, [(0, .ag [i6, i6])], [], []⟩
noncomputable def coulomb_of_g (K : Nat) (n0 : Nat) (m1 : (Nat → Int)) : Option (Int × Int × Unit) :=
  ((fx_Sum_g K 1125899906842624000 n0 m1).bind fun q1 => ((fx_Down_g K q1.1 1000).bind fun q2 => (some ((wi64 (q1.1 - (wi64 (q2.1 * 1000)))), q2.1, ()))))
noncomputable def coulomb_of_o (K : Nat) : FO := fnFO coulomb_of_h coulomb_of_r fun t => coulomb_of_g K t.1 t.2.1
theorem coulomb_of_ok (K : Nat) : FOok Tryz.prog 139 (coulomb_of_o K) := fnE Bs (coulomb_of_n K) [] [] (coulomb_of_k K) trivial 0 Tryz.func139 fun t => by kernel_rfl
/-! coulomb_Add -/
noncomputable def coulomb_Add_n (K : Nat) : List (FuncId × FO) := [(138, coulomb_Total_o K), (129, coulomb_size_o K), (139, coulomb_of_o K)]
theorem coulomb_Add_k (K : Nat) : fnsOk Tryz.prog (coulomb_Add_n K) := ⟨coulomb_Total_ok K, coulomb_size_ok K, coulomb_of_ok K, trivial⟩
noncomputable def coulomb_Add_h : Sh := ⟨4, [(0, .sc (i6)), (1, .sc (i6)), (2, .sc (i6)), (3, .sc (i6))], [], []⟩
noncomputable def coulomb_Add_r : Sh := ⟨3, [(0, .sc (i6)), (1, .sc (i6)), (2, .sc (i6))], [], []⟩
noncomputable def coulomb_Add_g (K : Nat) (a0 a1 a2 a3 : Int) : Option (Int × Int × Int × Unit) :=
  ((coulomb_Total_g K a0 a1).bind fun q1 => (bif (q1.2.1 != 0) then (some (0, 0, 2, ())) else ((coulomb_size_g K 2147483648 1 (fun j => (selI [a2] j))).bind fun q2 => (bif (!q2.1) then (some (0, 0, 2, ())) else (bif (decide (a3 < 1)) then (some (0, 0, 2, ())) else (bif (decide (a3 > 60000)) then (some (0, 0, 2, ())) else ((coulomb_of_g K 2 (fun j => (selI [q1.1, (wi64 (a2 * a3))] j))).bind fun q3 => (some (q3.2.1, q3.1, q1.2.1, ())))))))))
noncomputable def coulomb_Add_gu (K : Nat) (t : coulomb_Add_h.T) : Option (Int × Int × Int × Unit) :=
  coulomb_Add_g K t.1 t.2.1 t.2.2.1 t.2.2.2.1
noncomputable def coulomb_Add_o (K : Nat) : FO := fnFO coulomb_Add_h coulomb_Add_r fun t => coulomb_Add_gu K t
theorem coulomb_Add_ok (K : Nat) : FOok Tryz.prog 82 (coulomb_Add_o K) := fnE Bs (coulomb_Add_n K) [] [] (coulomb_Add_k K) trivial 0 Tryz.func82 fun t => by kernel_rfl
/-! fx_Size -/
noncomputable def fx_Size_h : Sh := ⟨1, [(0, .sc (i6))], [], []⟩
noncomputable def fx_Size_r : Sh := ⟨1, [(0, .sc (i6))], [], []⟩
noncomputable def fx_Size_g (K : Nat) (a0 : Int) : Option (Int × Unit) :=
  (bif (decide (a0 < 0)) then (bif (decide ((wi64 (0 - a0)) < 0)) then (some ((wi64 ((wi64 (0 - a0)) - 1)), ())) else (some ((wi64 (0 - a0)), ()))) else (some (a0, ())))
noncomputable def fx_Size_o (K : Nat) : FO := fnFO fx_Size_h fx_Size_r fun t => fx_Size_g K t.1
theorem fx_Size_ok (K : Nat) : FOok Tryz.prog 140 (fx_Size_o K) := fnE Bs [] [] [] trivial trivial 0 Tryz.func140 fun t => by kernel_rfl
/-! cycle_counted_cycles -/
noncomputable def cycle_counted_cycles_h : Sh := ⟨1, [(0, .ag [i6, i6, i6, i6, i6, i6, i6, i6, i6, i6, i6, i6, i6, i6, i6, i6, i6, i6, i6, i6, i6, i6, i6])], [], []⟩
noncomputable def cycle_counted_cycles_r : Sh := ⟨1, [(0, .sc (i6))], [], []⟩
noncomputable def cycle_counted_cycles_g (K : Nat) (a0 a1 a2 a3 a4 a5 a6 a7 a8 a9 a10 a11 a12 a13 a14 a15 a16 a17 a18 a19 a20 a21 a22 : Int) : Option (Int × Unit) :=
  (bif (a8 == 0) then none else (some ((bif (decide (2147483647 < (wi64 (Int.tdiv (wi64 (Int.tdiv a11 2)) a8)))) then 2147483647 else (wi64 (Int.tdiv (wi64 (Int.tdiv a11 2)) a8))), ())))
noncomputable def cycle_counted_cycles_gu (K : Nat) (t : cycle_counted_cycles_h.T) : Option (Int × Unit) :=
  let u1 := t.2
  let u2 := u1.2
  let u3 := u2.2
  let u4 := u3.2
  let u5 := u4.2
  let u6 := u5.2
  let u7 := u6.2
  let u8 := u7.2
  let u9 := u8.2
  let u10 := u9.2
  let u11 := u10.2
  let u12 := u11.2
  let u13 := u12.2
  let u14 := u13.2
  let u15 := u14.2
  let u16 := u15.2
  let u17 := u16.2
  let u18 := u17.2
  let u19 := u18.2
  let u20 := u19.2
  let u21 := u20.2
  let u22 := u21.2
  cycle_counted_cycles_g K t.1 u1.1 u2.1 u3.1 u4.1 u5.1 u6.1 u7.1 u8.1 u9.1 u10.1 u11.1 u12.1 u13.1 u14.1 u15.1 u16.1 u17.1 u18.1 u19.1 u20.1 u21.1 u22.1
noncomputable def cycle_counted_cycles_o (K : Nat) : FO := fnFO cycle_counted_cycles_h cycle_counted_cycles_r fun t => cycle_counted_cycles_gu K t
theorem cycle_counted_cycles_ok (K : Nat) : FOok Tryz.prog 143 (cycle_counted_cycles_o K) := fnE Bs [] [] [] trivial trivial 0 Tryz.func143 fun t => by kernel_rfl
/-! cycle_Step -/
noncomputable def cycle_Step_n (K : Nat) : List (FuncId × FO) := [(140, fx_Size_o K), (130, cycle_counted_right_o K), (142, cycle_counted_total_o K), (141, fx_Sum_o K), (143, cycle_counted_cycles_o K)]
theorem cycle_Step_k (K : Nat) : fnsOk Tryz.prog (cycle_Step_n K) := ⟨fx_Size_ok K, cycle_counted_right_ok K, cycle_counted_total_ok K, fx_Sum_ok K, cycle_counted_cycles_ok K, trivial⟩
noncomputable def cycle_Step_h : Sh := ⟨3, [(0, .ag [i6, i6, i6, i6, i6, i6, i6, i6, i6, i6, i6, i6, i6, i6, i6, i6, i6, i6, i6, i6, i6, i6, i6]), (1, .sc (i6)), (2, .sc (i6))], [], []⟩
noncomputable def cycle_Step_r : Sh := ⟨2, [(0, .ag [i6, i6, i6, i6, i6, i6, i6, i6, i6, i6, i6, i6, i6, i6, i6, i6, i6, i6, i6, i6, i6, i6, i6]), (1, .sc (i6))], [], []⟩
noncomputable def cycle_Step_g (K : Nat) (a0 a1 a2 a3 a4 a5 a6 a7 a8 a9 a10 a11 a12 a13 a14 a15 a16 a17 a18 a19 a20 a21 a22 a23 a24 : Int) : Option (Int × Int × Int × Int × Int × Int × Int × Int × Int × Int × Int × Int × Int × Int × Int × Int × Int × Int × Int × Int × Int × Int × Int × Int × Unit) :=
  ((fx_Size_g K a23).bind fun q1 => ((cycle_counted_right_g K a0 a1 a2 a3 a4 a5 a6 a7 a8 a9 a10 a11 a12 a13 a14 a15 a16 a17 a18 a19 a20 a21 a22).bind fun q2 => (bif (!q2.1) then (some (0, 0, 0, 0, 0, 0, 0, 0, 0, 0, 0, 0, 0, 0, 0, 0, 0, 0, 0, 0, 0, 0, 0, 2, ())) else (bif (decide (q1.1 > 2147483648)) then (some (0, 0, 0, 0, 0, 0, 0, 0, 0, 0, 0, 0, 0, 0, 0, 0, 0, 0, 0, 0, 0, 0, 0, 2, ())) else (bif (decide (a24 < 1)) then (some (0, 0, 0, 0, 0, 0, 0, 0, 0, 0, 0, 0, 0, 0, 0, 0, 0, 0, 0, 0, 0, 0, 0, 2, ())) else (bif (decide (a24 > 60000)) then (some (0, 0, 0, 0, 0, 0, 0, 0, 0, 0, 0, 0, 0, 0, 0, 0, 0, 0, 0, 0, 0, 0, 0, 2, ())) else ((cycle_counted_total_g K a0 a1 a2 a3 a4 a5 a6 a7 a8 a9 a10 a11 a12 a13 a14 a15 a16 a17 a18 a19 a20 a21 a22).bind fun q3 => ((fx_Sum_g K 1125899906842624000 2 (fun j => (selI [q3.1, (wi64 (q1.1 * a24))] j))).bind fun q4 => ((cycle_counted_cycles_g K a0 a1 a2 a3 a4 a5 a6 a7 a8 a9 a10 (wi64 (Int.tdiv q4.1 1000)) (Int.tmod q4.1 1000) a13 a14 a15 a16 a17 a18 a19 a20 a21 a22).bind fun q5 => (some (a0, a1, a2, a3, a4, a5, a6, a7, a8, a9, a10, (wi64 (Int.tdiv q4.1 1000)), (Int.tmod q4.1 1000), (bif (decide (q5.1 > a13)) then q5.1 else a13), a14, a15, a16, a17, a18, a19, a20, a21, a22, 0, ())))))))))))
noncomputable def cycle_Step_gu (K : Nat) (t : cycle_Step_h.T) : Option (Int × Int × Int × Int × Int × Int × Int × Int × Int × Int × Int × Int × Int × Int × Int × Int × Int × Int × Int × Int × Int × Int × Int × Int × Unit) :=
  let u1 := t.2
  let u2 := u1.2
  let u3 := u2.2
  let u4 := u3.2
  let u5 := u4.2
  let u6 := u5.2
  let u7 := u6.2
  let u8 := u7.2
  let u9 := u8.2
  let u10 := u9.2
  let u11 := u10.2
  let u12 := u11.2
  let u13 := u12.2
  let u14 := u13.2
  let u15 := u14.2
  let u16 := u15.2
  let u17 := u16.2
  let u18 := u17.2
  let u19 := u18.2
  let u20 := u19.2
  let u21 := u20.2
  let u22 := u21.2
  let u23 := u22.2
  let u24 := u23.2
  cycle_Step_g K t.1 u1.1 u2.1 u3.1 u4.1 u5.1 u6.1 u7.1 u8.1 u9.1 u10.1 u11.1 u12.1 u13.1 u14.1 u15.1 u16.1 u17.1 u18.1 u19.1 u20.1 u21.1 u22.1 u23.1 u24.1
noncomputable def cycle_Step_o (K : Nat) : FO := fnFO cycle_Step_h cycle_Step_r fun t => cycle_Step_gu K t
theorem cycle_Step_ok (K : Nat) : FOok Tryz.prog 83 (cycle_Step_o K) := fnE Bs (cycle_Step_n K) [] [] (cycle_Step_k K) trivial 0 Tryz.func83 fun t => by kernel_rfl
/-! model_units -/
noncomputable def model_units_h : Sh := ⟨0, [], [], []⟩
noncomputable def model_units_r : Sh := ⟨1, [(0, .ag [i6, i6])], [], []⟩
noncomputable def model_units_g (K : Nat)  : Option (Int × Int × Unit) :=
  (some ((-2147483648), 2147483648, ()))
noncomputable def model_units_o (K : Nat) : FO := fnFO model_units_h model_units_r fun t => model_units_g K
theorem model_units_ok (K : Nat) : FOok Tryz.prog 144 (model_units_o K) := fnE Bs [] [] [] trivial trivial 0 Tryz.func144 fun t => by kernel_rfl
/-! model_ticksOf -/
noncomputable def model_ticksOf_h : Sh := ⟨0, [], [], []⟩
noncomputable def model_ticksOf_r : Sh := ⟨1, [(0, .ag [i6, i6])], [], []⟩
noncomputable def model_ticksOf_g (K : Nat)  : Option (Int × Int × Unit) :=
  (some (1, 60000, ()))
noncomputable def model_ticksOf_o (K : Nat) : FO := fnFO model_ticksOf_h model_ticksOf_r fun t => model_ticksOf_g K
theorem model_ticksOf_ok (K : Nat) : FOok Tryz.prog 145 (model_ticksOf_o K) := fnE Bs [] [] [] trivial trivial 0 Tryz.func145 fun t => by kernel_rfl
/-! model_of -/
noncomputable def model_of_h : Sh := ⟨1, [(0, .ag [i6, i6, i6, i6, i6, i6, i6, i6])], [], []⟩
noncomputable def model_of_r : Sh := ⟨1, [(0, .ag [i6, i6, i6, i6, i6, i6, i6, i6, i6, i6, i6, i6])], [], []⟩
noncomputable def model_of_g (K : Nat) (a0 a1 a2 a3 a4 a5 a6 a7 : Int) : Option (Int × Int × Int × Int × Int × Int × Int × Int × Int × Int × Int × Int × Unit) :=
  (some (a1, a3, a2, a4, a0, a1, a2, a3, a4, a5, a6, a7, ()))
noncomputable def model_of_gu (K : Nat) (t : model_of_h.T) : Option (Int × Int × Int × Int × Int × Int × Int × Int × Int × Int × Int × Int × Unit) :=
  let u1 := t.2
  let u2 := u1.2
  let u3 := u2.2
  let u4 := u3.2
  let u5 := u4.2
  let u6 := u5.2
  let u7 := u6.2
  model_of_g K t.1 u1.1 u2.1 u3.1 u4.1 u5.1 u6.1 u7.1
noncomputable def model_of_o (K : Nat) : FO := fnFO model_of_h model_of_r fun t => model_of_gu K t
theorem model_of_ok (K : Nat) : FOok Tryz.prog 146 (model_of_o K) := fnE Bs [] [] [] trivial trivial 0 Tryz.func146 fun t => by kernel_rfl
/-! model_sum -/
noncomputable def model_sum_n (K : Nat) : List (FuncId × FO) := [(157, fx_Between_o K)]
theorem model_sum_k (K : Nat) : fnsOk Tryz.prog (model_sum_n K) := ⟨fx_Between_ok K, trivial⟩
noncomputable def model_sum_l0h : Sh := ⟨18, [(3, .sc (i6)), (6, .sc (.slr0 0)), (7, .sc (i6)), (8, .sc (i6))], [(0, [])], [(false, true, [r6])]⟩
noncomputable def model_sum_l0x0 : Sh := ⟨18, [(3, .sc (i6))], [(0, [])], []⟩
noncomputable def model_sum_l0r (K : Nat) (rec : Int → Nat → Int → Int → (Nat → Int) → Option (Int × Unit)) (a0 : Int) (n1 : Nat) (a2 a3 : Int) (m4 : (Nat → Int)) : Option (Int × Unit) :=
  (bif (decide (a3 < a2)) then (bif ((decide (0 ≤ a3)) && (decide (a3 < ((n1 : Nat) : Int)))) then (rec (wi64 (a0 + (m4 (Int.toNat a3)))) n1 a2 (wi64 (a3 + 1)) m4) else none) else (some (a0, ())))
noncomputable def model_sum_l0 (K n : Nat) := itN (fun _ _ _ _ _ => none) (model_sum_l0r K) n
noncomputable def model_sum_l0u (K n : Nat) (t : model_sum_l0h.T) : Option (Int × Unit) :=
  model_sum_l0 K n t.1 t.2.1 t.2.2.1 t.2.2.2.1 t.2.2.2.2.1
noncomputable def model_sum_l0E (K : Nat) : LoopE Tryz.prog := lpE Bs (model_sum_n K) [] [] (model_sum_k K) trivial 0 Tryz.func154 3 [] model_sum_l0h (OutI.exit 0 model_sum_l0x0) (fun n t => model_sum_l0u K n t) (fun _ => rfl) (fun n t => by kernel_rfl) K
noncomputable def model_sum_h : Sh := ⟨1, [(0, .sc (.slr0 0))], [], [(false, true, [r6])]⟩
noncomputable def model_sum_r : Sh := ⟨1, [(0, .sc (i6))], [], []⟩
noncomputable def model_sum_g (K : Nat) (n0 : Nat) (m1 : (Nat → Int)) : Option (Int × Unit) :=
  ((model_sum_l0 K K 0 n0 ((n0 : Nat) : Int) 0 m1).bind fun q1 => ((fx_Between_g K (-2147483648) 2147483648 q1.1).bind fun q2 => (some (q2.1, ()))))
noncomputable def model_sum_o (K : Nat) : FO := fnFO model_sum_h model_sum_r fun t => model_sum_g K t.1 t.2.1
theorem model_sum_ok (K : Nat) : FOok Tryz.prog 154 (model_sum_o K) := fnE Bs (model_sum_n K) [] [model_sum_l0E K] (model_sum_k K) trivial 0 Tryz.func154 fun t => by kernel_rfl
/-! model_drive -/
noncomputable def model_drive_n (K : Nat) : List (FuncId × FO) := [(178, wide_MulNear_o K), (154, model_sum_o K)]
theorem model_drive_k (K : Nat) : fnsOk Tryz.prog (model_drive_n K) := ⟨wide_MulNear_ok K, model_sum_ok K, trivial⟩
noncomputable def model_drive_h : Sh := ⟨2, [(0, .sc (i6)), (1, .sc (i6))], [], []⟩
noncomputable def model_drive_r : Sh := ⟨1, [(0, .sc (i6))], [], []⟩
noncomputable def model_drive_g (K : Nat) (a0 a1 : Int) : Option (Int × Unit) :=
  ((wide_MulNear_g K a0 a1 1000).bind fun q1 => ((model_sum_g K 1 (fun j => (selI [q1.1] j))).bind fun q2 => (some (q2.1, ()))))
noncomputable def model_drive_o (K : Nat) : FO := fnFO model_drive_h model_drive_r fun t => model_drive_g K t.1 t.2.1
theorem model_drive_ok (K : Nat) : FOok Tryz.prog 155 (model_drive_o K) := fnE Bs (model_drive_n K) [] [] (model_drive_k K) trivial 0 Tryz.func155 fun t => by kernel_rfl
/-! model_pair_behind -/
noncomputable def model_pair_behind_n (K : Nat) : List (FuncId × FO) := [(155, model_drive_o K), (178, wide_MulNear_o K)]
theorem model_pair_behind_k (K : Nat) : fnsOk Tryz.prog (model_pair_behind_n K) := ⟨model_drive_ok K, wide_MulNear_ok K, trivial⟩
noncomputable def model_pair_behind_h : Sh := ⟨4, [(0, .ag [i6, i6]), (1, .sc (i6)), (2, .sc (i6)), (3, .sc (i6))], [], []⟩
noncomputable def model_pair_behind_r : Sh := ⟨1, [(0, .sc (i6))], [], []⟩
noncomputable def model_pair_behind_g (K : Nat) (a0 a1 a2 a3 a4 : Int) : Option (Int × Unit) :=
  ((model_drive_g K a3 a0).bind fun q1 => ((wide_MulNear_g K (wi64 (q1.1 - a2)) a4 (wi64 (a1 + a4))).bind fun q2 => (some ((wi64 (a2 + q2.1)), ()))))
noncomputable def model_pair_behind_gu (K : Nat) (t : model_pair_behind_h.T) : Option (Int × Unit) :=
  model_pair_behind_g K t.1 t.2.1 t.2.2.1 t.2.2.2.1 t.2.2.2.2.1
noncomputable def model_pair_behind_o (K : Nat) : FO := fnFO model_pair_behind_h model_pair_behind_r fun t => model_pair_behind_gu K t
theorem model_pair_behind_ok (K : Nat) : FOok Tryz.prog 147 (model_pair_behind_o K) := fnE Bs (model_pair_behind_n K) [] [] (model_pair_behind_k K) trivial 0 Tryz.func147 fun t => by kernel_rfl
/-! model_Step -/
noncomputable def model_Step_n (K : Nat) : List (FuncId × FO) := [(49, model_Check_o K), (144, model_units_o K), (116, model_span_has_o K), (145, model_ticksOf_o K), (146, model_of_o K), (147, model_pair_behind_o K)]
theorem model_Step_k (K : Nat) : fnsOk Tryz.prog (model_Step_n K) := ⟨model_Check_ok K, model_units_ok K, model_span_has_ok K, model_ticksOf_ok K, model_of_ok K, model_pair_behind_ok K, trivial⟩
noncomputable def model_Step_h : Sh := ⟨5, [(0, .ag [i6, i6, i6, i6, i6, i6, i6, i6]), (1, .sc (i6)), (2, .sc (i6)), (3, .sc (i6)), (4, .sc (i6))], [], []⟩
noncomputable def model_Step_r : Sh := ⟨3, [(0, .sc (i6)), (1, .sc (i6)), (2, .sc (i6))], [], []⟩
noncomputable def model_Step_g (K : Nat) (a0 a1 a2 a3 a4 a5 a6 a7 a8 a9 a10 a11 : Int) : Option (Int × Int × Int × Unit) :=
  ((model_Check_g K a0 a1 a2 a3 a4 a5 a6 a7).bind fun q1 => (bif (q1.1 != 0) then (some (0, 0, 2, ())) else ((model_units_g K).bind fun q2 => ((model_span_has_g K q2.1 q2.2.1 3 (fun j => (selI [a8, a9, a10] j))).bind fun q3 => (bif (!q3.1) then (some (0, 0, 2, ())) else ((model_ticksOf_g K).bind fun q4 => ((model_span_has_g K q4.1 q4.2.1 1 (fun j => (selI [a11] j))).bind fun q5 => (bif (!q5.1) then (some (0, 0, 2, ())) else ((model_of_g K a0 a1 a2 a3 a4 a5 a6 a7).bind fun q6 => let q6_1 := q6.2; let q6_2 := q6_1.2; let q6_3 := q6_2.2; ((model_pair_behind_g K q6.1 q6_1.1 a8 a10 a11).bind fun q7 => ((model_pair_behind_g K q6_2.1 q6_3.1 a9 a10 a11).bind fun q8 => (some (q7.1, q8.1, 0, ())))))))))))))
noncomputable def model_Step_gu (K : Nat) (t : model_Step_h.T) : Option (Int × Int × Int × Unit) :=
  let u1 := t.2
  let u2 := u1.2
  let u3 := u2.2
  let u4 := u3.2
  let u5 := u4.2
  let u6 := u5.2
  let u7 := u6.2
  let u8 := u7.2
  let u9 := u8.2
  let u10 := u9.2
  let u11 := u10.2
  model_Step_g K t.1 u1.1 u2.1 u3.1 u4.1 u5.1 u6.1 u7.1 u8.1 u9.1 u10.1 u11.1
noncomputable def model_Step_o (K : Nat) : FO := fnFO model_Step_h model_Step_r fun t => model_Step_gu K t
theorem model_Step_ok (K : Nat) : FOok Tryz.prog 84 (model_Step_o K) := fnE Bs (model_Step_n K) [] [] (model_Step_k K) trivial 0 Tryz.func84 fun t => by kernel_rfl
/-! rest_of -/
noncomputable def rest_of_h : Sh := ⟨2, [(0, .ag [i6, i6, i6, i6, i6, i6, i6, i6]), (1, .sc (i6))], [], []⟩
noncomputable def rest_of_r : Sh := ⟨1, [(0, .ag [i6, i6, i6, i6])], [], []⟩
noncomputable def rest_of_g (K : Nat) (a0 a1 a2 a3 a4 a5 a6 a7 a8 : Int) : Option (Int × Int × Int × Int × Unit) :=
  (some (a5, a6, a7, a8, ()))
noncomputable def rest_of_gu (K : Nat) (t : rest_of_h.T) : Option (Int × Int × Int × Int × Unit) :=
  let u1 := t.2
  let u2 := u1.2
  let u3 := u2.2
  let u4 := u3.2
  let u5 := u4.2
  let u6 := u5.2
  let u7 := u6.2
  let u8 := u7.2
  rest_of_g K t.1 u1.1 u2.1 u3.1 u4.1 u5.1 u6.1 u7.1 u8.1
noncomputable def rest_of_o (K : Nat) : FO := fnFO rest_of_h rest_of_r fun t => rest_of_gu K t
theorem rest_of_ok (K : Nat) : FOok Tryz.prog 148 (rest_of_o K) := fnE Bs [] [] [] trivial trivial 0 Tryz.func148 fun t => by kernel_rfl
/-! rest_limits_may -/
noncomputable def rest_limits_may_l0h : Sh := ⟨25, [(1, .sc (.lit (.p 0 0 0 []))), (9, .sc (.slf 1 0 1 2)), (10, .sc (i6)), (11, .sc (i6))], [(0, [])], [(true, false, [i6, i6, i6]), (true, false, [i6, i6])]⟩
noncomputable def rest_limits_may_l0x0 : Sh := ⟨25, [(1, .sc (.lit (.p 0 0 0 [])))], [(0, [])], [(true, false, [i6, i6, i6])]⟩
noncomputable def rest_limits_may_l0x1 : Sh := ⟨25, [(2, .sc (.b))], [(0, [])], []⟩
noncomputable def rest_limits_may_l0r (K : Nat) (rec : Nat → Nat → Int → Int → Int → Int → Int → Int → Int → Option ((Int × Int × Int × Unit) ⊕ (Bool × Unit))) (n0 n1 : Nat) (a2 a3 a4 a5 a6 a7 a8 : Int) : Option ((Int × Int × Int × Unit) ⊕ (Bool × Unit)) :=
  (bif (decide (a3 < a2)) then (bif ((decide (0 ≤ a3)) && (decide (a3 < ((n1 : Nat) : Int)))) then (bif (decide ((selI [a7, a8] ((Int.toNat a3) + n0)) < 0)) then (some (.inr (false, ()))) else (bif (decide ((selI [a7, a8] ((Int.toNat a3) + n0)) > 2147483648)) then (some (.inr (false, ()))) else (rec n0 n1 a2 (wi64 (a3 + 1)) a4 a5 a6 a7 a8))) else none) else (some (.inl (a4, a5, a6, ()))))
noncomputable def rest_limits_may_l0 (K n : Nat) := itN (fun _ _ _ _ _ _ _ _ _ => none) (rest_limits_may_l0r K) n
noncomputable def rest_limits_may_l0u (K n : Nat) (t : rest_limits_may_l0h.T) : Option ((Int × Int × Int × Unit) ⊕ (Bool × Unit)) :=
  let u1 := t.2
  let u2 := u1.2
  let u3 := u2.2
  let u4 := u3.2
  let u5 := u4.2
  let u6 := u5.2
  let u7 := u6.2
  let u8 := u7.2
  rest_limits_may_l0 K n t.1 u1.1 u2.1 u3.1 u4.1 u5.1 u6.1 u7.1 u8.1
noncomputable def rest_limits_may_l0E (K : Nat) : LoopE Tryz.prog := lpE Bs [] [] [] trivial trivial 0 Tryz.func183 2 [] rest_limits_may_l0h (OutI.or (OutI.exit 0 rest_limits_may_l0x0) (OutI.ret rest_limits_may_l0x1)) (fun n t => rest_limits_may_l0u K n t) (fun _ => rfl) (fun n t => by kernel_rfl) K
noncomputable def rest_limits_may_h : Sh := ⟨1, [(0, .ag [i6, i6, i6])], [], []⟩
noncomputable def rest_limits_may_r : Sh := ⟨1, [(0, .sc (.b))], [], []⟩
noncomputable def rest_limits_may_g (K : Nat) (a0 a1 a2 : Int) : Option (Bool × Unit) :=
  ((rest_limits_may_l0 K K 0 2 2 0 a0 a1 a2 a0 a1).bind fun q1 => (Sum.elim (fun q2 => (some ((decide (q2.2.2.1 > 0)), ()))) (fun q3 => (some (q3.1, ()))) q1))
noncomputable def rest_limits_may_o (K : Nat) : FO := fnFO rest_limits_may_h rest_limits_may_r fun t => rest_limits_may_g K t.1 t.2.1 t.2.2.1
theorem rest_limits_may_ok (K : Nat) : FOok Tryz.prog 183 (rest_limits_may_o K) := fnE Bs [] [] [rest_limits_may_l0E K] trivial trivial 0 Tryz.func183 fun t => by kernel_rfl
/-! rest_cell_right -/
noncomputable def rest_cell_right_n (K : Nat) : List (FuncId × FO) := [(183, rest_limits_may_o K)]
theorem rest_cell_right_k (K : Nat) : fnsOk Tryz.prog (rest_cell_right_n K) := ⟨rest_limits_may_ok K, trivial⟩
noncomputable def rest_cell_right_h : Sh := ⟨1, [(0, .ag [i6, i6, i6, i6])], [], []⟩
noncomputable def rest_cell_right_r : Sh := ⟨1, [(0, .sc (.b))], [], []⟩
noncomputable def rest_cell_right_g (K : Nat) (a0 a1 a2 a3 : Int) : Option (Bool × Unit) :=
  ((rest_limits_may_g K a0 a1 a2).bind fun q1 => (bif q1.1 then (bif (decide (a3 ≥ 0)) then (some ((decide (a3 ≤ 1125899906842624)), ())) else (some (false, ()))) else (some (false, ()))))
noncomputable def rest_cell_right_gu (K : Nat) (t : rest_cell_right_h.T) : Option (Bool × Unit) :=
  rest_cell_right_g K t.1 t.2.1 t.2.2.1 t.2.2.2.1
noncomputable def rest_cell_right_o (K : Nat) : FO := fnFO rest_cell_right_h rest_cell_right_r fun t => rest_cell_right_gu K t
theorem rest_cell_right_ok (K : Nat) : FOok Tryz.prog 149 (rest_cell_right_o K) := fnE Bs (rest_cell_right_n K) [] [] (rest_cell_right_k K) trivial 0 Tryz.func149 fun t => by kernel_rfl
/-! rest_unit -/
noncomputable def rest_unit_l0h : Sh := ⟨18, [(5, .sc (.slr0 0)), (6, .sc (i6)), (7, .sc (i6))], [(0, [])], [(false, true, [r6])]⟩
noncomputable def rest_unit_l0x0 : Sh := ⟨18, [], [(0, [])], []⟩
noncomputable def rest_unit_l0x1 : Sh := ⟨18, [(2, .sc (.b))], [(0, [])], []⟩
noncomputable def rest_unit_l0r (K : Nat) (rec : Nat → Int → Int → (Nat → Int) → Option ((Unit) ⊕ (Bool × Unit))) (n0 : Nat) (a1 a2 : Int) (m3 : (Nat → Int)) : Option ((Unit) ⊕ (Bool × Unit)) :=
  (bif (decide (a2 < a1)) then (bif ((decide (0 ≤ a2)) && (decide (a2 < ((n0 : Nat) : Int)))) then (bif (decide ((m3 (Int.toNat a2)) < (-2147483648))) then (some (.inr (false, ()))) else (bif (decide ((m3 (Int.toNat a2)) > 2147483648)) then (some (.inr (false, ()))) else (rec n0 a1 (wi64 (a2 + 1)) m3))) else none) else (some (.inl (()))))
noncomputable def rest_unit_l0 (K n : Nat) := itN (fun _ _ _ _ => none) (rest_unit_l0r K) n
noncomputable def rest_unit_l0u (K n : Nat) (t : rest_unit_l0h.T) : Option ((Unit) ⊕ (Bool × Unit)) :=
  rest_unit_l0 K n t.1 t.2.1 t.2.2.1 t.2.2.2.1
noncomputable def rest_unit_l0E (K : Nat) : LoopE Tryz.prog := lpE Bs [] [] [] trivial trivial 0 Tryz.func150 2 [] rest_unit_l0h (OutI.or (OutI.exit 0 rest_unit_l0x0) (OutI.ret rest_unit_l0x1)) (fun n t => rest_unit_l0u K n t) (fun _ => rfl) (fun n t => by kernel_rfl) K
noncomputable def rest_unit_h : Sh := ⟨1, [(0, .sc (.slr0 0))], [], [(false, true, [r6])]⟩
noncomputable def rest_unit_r : Sh := ⟨1, [(0, .sc (.b))], [], []⟩
noncomputable def rest_unit_g (K : Nat) (n0 : Nat) (m1 : (Nat → Int)) : Option (Bool × Unit) :=
  ((rest_unit_l0 K K n0 ((n0 : Nat) : Int) 0 m1).bind fun q1 => (Sum.elim (fun q2 => (some (true, ()))) (fun q3 => (some (q3.1, ()))) q1))
noncomputable def rest_unit_o (K : Nat) : FO := fnFO rest_unit_h rest_unit_r fun t => rest_unit_g K t.1 t.2.1
theorem rest_unit_ok (K : Nat) : FOok Tryz.prog 150 (rest_unit_o K) := fnE Bs [] [] [rest_unit_l0E K] trivial trivial 0 Tryz.func150 fun t => by kernel_rfl
/-! rest_Calm -/
noncomputable def rest_Calm_n (K : Nat) : List (FuncId × FO) := [(148, rest_of_o K), (183, rest_limits_may_o K), (150, rest_unit_o K), (140, fx_Size_o K)]
theorem rest_Calm_k (K : Nat) : fnsOk Tryz.prog (rest_Calm_n K) := ⟨rest_of_ok K, rest_limits_may_ok K, rest_unit_ok K, fx_Size_ok K, trivial⟩
noncomputable def rest_Calm_h : Sh := ⟨4, [(0, .ag [i6, i6, i6, i6, i6, i6, i6, i6]), (1, .sc (i6)), (2, .sc (i6)), (3, .sc (i6))], [], []⟩
noncomputable def rest_Calm_r : Sh := ⟨1, [(0, .sc (.b))], [], []⟩
noncomputable def rest_Calm_g (K : Nat) (a0 a1 a2 a3 a4 a5 a6 a7 a8 a9 a10 : Int) : Option (Bool × Unit) :=
  ((rest_of_g K a0 a1 a2 a3 a4 a5 a6 a7 0).bind fun q1 => ((rest_limits_may_g K q1.1 q1.2.1 q1.2.2.1).bind fun q2 => (bif q2.1 then ((rest_unit_g K 3 (fun j => (selI [a8, a9, a10] j))).bind fun q3 => (bif q3.1 then ((fx_Size_g K a8).bind fun q4 => (bif (decide (q4.1 ≤ q1.1)) then ((fx_Size_g K a9).bind fun q5 => ((fx_Size_g K a10).bind fun q6 => (some ((decide ((wi64 (q5.1 + q6.1)) ≤ q1.2.1)), ())))) else (some (false, ())))) else (some (false, ())))) else (some (false, ())))))
noncomputable def rest_Calm_gu (K : Nat) (t : rest_Calm_h.T) : Option (Bool × Unit) :=
  let u1 := t.2
  let u2 := u1.2
  let u3 := u2.2
  let u4 := u3.2
  let u5 := u4.2
  let u6 := u5.2
  let u7 := u6.2
  let u8 := u7.2
  let u9 := u8.2
  let u10 := u9.2
  rest_Calm_g K t.1 u1.1 u2.1 u3.1 u4.1 u5.1 u6.1 u7.1 u8.1 u9.1 u10.1
noncomputable def rest_Calm_o (K : Nat) : FO := fnFO rest_Calm_h rest_Calm_r fun t => rest_Calm_gu K t
theorem rest_Calm_ok (K : Nat) : FOok Tryz.prog 151 (rest_Calm_o K) := fnE Bs (rest_Calm_n K) [] [] (rest_Calm_k K) trivial 0 Tryz.func151 fun t => by kernel_rfl
/-! rest_Step -/
noncomputable def rest_Step_n (K : Nat) : List (FuncId × FO) := [(148, rest_of_o K), (149, rest_cell_right_o K), (150, rest_unit_o K), (151, rest_Calm_o K), (141, fx_Sum_o K)]
theorem rest_Step_k (K : Nat) : fnsOk Tryz.prog (rest_Step_n K) := ⟨rest_of_ok K, rest_cell_right_ok K, rest_unit_ok K, rest_Calm_ok K, fx_Sum_ok K, trivial⟩
noncomputable def rest_Step_h : Sh := ⟨6, [(0, .ag [i6, i6, i6, i6, i6, i6, i6, i6]), (1, .sc (i6)), (2, .sc (i6)), (3, .sc (i6)), (4, .sc (i6)), (5, .sc (i6))], [], []⟩
noncomputable def rest_Step_r : Sh := ⟨2, [(0, .sc (i6)), (1, .sc (i6))], [], []⟩
noncomputable def rest_Step_g (K : Nat) (a0 a1 a2 a3 a4 a5 a6 a7 a8 a9 a10 a11 a12 : Int) : Option (Int × Int × Unit) :=
  ((rest_of_g K a0 a1 a2 a3 a4 a5 a6 a7 a8).bind fun q1 => ((rest_cell_right_g K q1.1 q1.2.1 q1.2.2.1 q1.2.2.2.1).bind fun q2 => (bif (!q2.1) then (some (0, 2, ())) else ((rest_unit_g K 3 (fun j => (selI [a9, a10, a11] j))).bind fun q3 => (bif (!q3.1) then (some (0, 2, ())) else (bif (decide (a12 < 1)) then (some (0, 2, ())) else (bif (decide (a12 > 60000)) then (some (0, 2, ())) else ((rest_Calm_g K a0 a1 a2 a3 a4 a5 a6 a7 a9 a10 a11).bind fun q4 => (bif (!q4.1) then (some (0, 0, ())) else ((fx_Sum_g K 1125899906842624 2 (fun j => (selI [a8, a12] j))).bind fun q5 => (some (q5.1, q5.2.1, ()))))))))))))
noncomputable def rest_Step_gu (K : Nat) (t : rest_Step_h.T) : Option (Int × Int × Unit) :=
  let u1 := t.2
  let u2 := u1.2
  let u3 := u2.2
  let u4 := u3.2
  let u5 := u4.2
  let u6 := u5.2
  let u7 := u6.2
  let u8 := u7.2
  let u9 := u8.2
  let u10 := u9.2
  let u11 := u10.2
  let u12 := u11.2
  rest_Step_g K t.1 u1.1 u2.1 u3.1 u4.1 u5.1 u6.1 u7.1 u8.1 u9.1 u10.1 u11.1 u12.1
noncomputable def rest_Step_o (K : Nat) : FO := fnFO rest_Step_h rest_Step_r fun t => rest_Step_gu K t
theorem rest_Step_ok (K : Nat) : FOok Tryz.prog 85 (rest_Step_o K) := fnE Bs (rest_Step_n K) [] [] (rest_Step_k K) trivial 0 Tryz.func85 fun t => by kernel_rfl
/-! coulomb_may -/
noncomputable def coulomb_may_h : Sh := ⟨2, [(0, .sc (i6)), (1, .sc (i6))], [], []⟩
noncomputable def coulomb_may_r : Sh := ⟨1, [(0, .sc (.b))], [], []⟩
noncomputable def coulomb_may_g (K : Nat) (a0 a1 : Int) : Option (Bool × Unit) :=
  (bif (decide (a0 ≥ 0)) then (bif (decide (a0 ≤ 10000)) then (bif (decide (a1 ≥ 1)) then (some ((decide (a1 ≤ 1125899906842624)), ())) else (some (false, ()))) else (some (false, ()))) else (some (false, ())))
noncomputable def coulomb_may_o (K : Nat) : FO := fnFO coulomb_may_h coulomb_may_r fun t => coulomb_may_g K t.1 t.2.1
theorem coulomb_may_ok (K : Nat) : FOok Tryz.prog 202 (coulomb_may_o K) := fnE Bs [] [] [] trivial trivial 0 Tryz.func202 fun t => by kernel_rfl
/-! coulomb_Shown -/
noncomputable def coulomb_Shown_n (K : Nat) : List (FuncId × FO) := [(202, coulomb_may_o K), (129, coulomb_size_o K), (178, wide_MulNear_o K), (179, fx_Clamp_o K), (157, fx_Between_o K)]
theorem coulomb_Shown_k (K : Nat) : fnsOk Tryz.prog (coulomb_Shown_n K) := ⟨coulomb_may_ok K, coulomb_size_ok K, wide_MulNear_ok K, fx_Clamp_ok K, fx_Between_ok K, trivial⟩
noncomputable def coulomb_Shown_h : Sh := ⟨4, [(0, .sc (i6)), (1, .sc (i6)), (2, .sc (i6)), (3, .sc (i6))], [], []⟩
noncomputable def coulomb_Shown_r : Sh := ⟨2, [(0, .sc (i6)), (1, .sc (i6))], [], []⟩
noncomputable def coulomb_Shown_g (K : Nat) (a0 a1 a2 a3 : Int) : Option (Int × Int × Unit) :=
  ((coulomb_may_g K a0 a3).bind fun q1 => (bif (!q1.1) then (some (0, 2, ())) else ((coulomb_size_g K 1125899906842624 2 (fun j => (selI [a1, a2] j))).bind fun q2 => (bif (!q2.1) then (some (0, 2, ())) else ((wide_MulNear_g K 10000 (wi64 (a2 - a1)) a3).bind fun q3 => (bif (q3.2.1 != 0) then ((fx_Clamp_g K 10000 (wi64 (a2 - a1))).bind fun q4 => ((fx_Between_g K 0 10000 (wi64 (a0 + q4.1))).bind fun q5 => (some (q5.1, 0, ())))) else ((fx_Clamp_g K 10000 q3.1).bind fun q6 => ((fx_Between_g K 0 10000 (wi64 (a0 + q6.1))).bind fun q7 => (some (q7.1, 0, ()))))))))))
noncomputable def coulomb_Shown_gu (K : Nat) (t : coulomb_Shown_h.T) : Option (Int × Int × Unit) :=
  coulomb_Shown_g K t.1 t.2.1 t.2.2.1 t.2.2.2.1
noncomputable def coulomb_Shown_o (K : Nat) : FO := fnFO coulomb_Shown_h coulomb_Shown_r fun t => coulomb_Shown_gu K t
theorem coulomb_Shown_ok (K : Nat) : FOok Tryz.prog 184 (coulomb_Shown_o K) := fnE Bs (coulomb_Shown_n K) [] [] (coulomb_Shown_k K) trivial 0 Tryz.func184 fun t => by kernel_rfl
/-! fuse_gone_shown -/
noncomputable def fuse_gone_shown_n (K : Nat) : List (FuncId × FO) := [(184, coulomb_Shown_o K)]
theorem fuse_gone_shown_k (K : Nat) : fnsOk Tryz.prog (fuse_gone_shown_n K) := ⟨coulomb_Shown_ok K, trivial⟩
noncomputable def fuse_gone_shown_h : Sh := ⟨1, [(0, .ag [i6, i6, i6, i6, i6, i6, i6, i6, i6, i6, i6, i6, i6, i6, i6, i6, i6, i6, i6, i6, i6, i6, i6])], [], []⟩
noncomputable def fuse_gone_shown_r : Sh := ⟨2, [(0, .sc (i6)), (1, .sc (i6))], [], []⟩
noncomputable def fuse_gone_shown_g (K : Nat) (a0 a1 a2 a3 a4 a5 a6 a7 a8 a9 a10 a11 a12 a13 a14 a15 a16 a17 a18 a19 a20 a21 a22 : Int) : Option (Int × Int × Unit) :=
  ((coulomb_Shown_g K a3 a4 a0 a8).bind fun q1 => (some (q1.1, q1.2.1, ())))
noncomputable def fuse_gone_shown_gu (K : Nat) (t : fuse_gone_shown_h.T) : Option (Int × Int × Unit) :=
  let u1 := t.2
  let u2 := u1.2
  let u3 := u2.2
  let u4 := u3.2
  let u5 := u4.2
  let u6 := u5.2
  let u7 := u6.2
  let u8 := u7.2
  let u9 := u8.2
  let u10 := u9.2
  let u11 := u10.2
  let u12 := u11.2
  let u13 := u12.2
  let u14 := u13.2
  let u15 := u14.2
  let u16 := u15.2
  let u17 := u16.2
  let u18 := u17.2
  let u19 := u18.2
  let u20 := u19.2
  let u21 := u20.2
  let u22 := u21.2
  fuse_gone_shown_g K t.1 u1.1 u2.1 u3.1 u4.1 u5.1 u6.1 u7.1 u8.1 u9.1 u10.1 u11.1 u12.1 u13.1 u14.1 u15.1 u16.1 u17.1 u18.1 u19.1 u20.1 u21.1 u22.1
noncomputable def fuse_gone_shown_o (K : Nat) : FO := fnFO fuse_gone_shown_h fuse_gone_shown_r fun t => fuse_gone_shown_gu K t
theorem fuse_gone_shown_ok (K : Nat) : FOok Tryz.prog 152 (fuse_gone_shown_o K) := fnE Bs (fuse_gone_shown_n K) [] [] (fuse_gone_shown_k K) trivial 0 Tryz.func152 fun t => by kernel_rfl
/-! fuse_Go -/
noncomputable def fuse_Go_n (K : Nat) : List (FuncId × FO) := [(152, fuse_gone_shown_o K)]
theorem fuse_Go_k (K : Nat) : fnsOk Tryz.prog (fuse_Go_n K) := ⟨fuse_gone_shown_ok K, trivial⟩
noncomputable def fuse_Go_h : Sh := ⟨1, [(0, .ag [i6, i6, i6, i6, i6, i6, i6, i6, i6, i6, i6, i6, i6, i6, i6, i6, i6, i6, i6, i6, i6, i6, i6])], [], []⟩
noncomputable def fuse_Go_r : Sh := ⟨2, [(0, .ag [i6, i6, i6, i6, i6, i6, i6, i6, i6, i6, i6, i6, i6, i6, i6, i6, i6, i6, i6, i6, i6, i6, i6]), (1, .sc (i6))], [], []⟩
noncomputable def fuse_Go_g (K : Nat) (a0 a1 a2 a3 a4 a5 a6 a7 a8 a9 a10 a11 a12 a13 a14 a15 a16 a17 a18 a19 a20 a21 a22 : Int) : Option (Int × Int × Int × Int × Int × Int × Int × Int × Int × Int × Int × Int × Int × Int × Int × Int × Int × Int × Int × Int × Int × Int × Int × Int × Unit) :=
  ((fuse_gone_shown_g K a0 a1 a2 a3 a4 a5 a6 a7 a8 a9 a10 a11 a12 a13 a14 a15 a16 a17 a18 a19 a20 a21 a22).bind fun q1 => (bif (q1.2.1 != 0) then (some (0, 0, 0, 0, 0, 0, 0, 0, 0, 0, 0, 0, 0, 0, 0, 0, 0, 0, 0, 0, 0, 0, 0, q1.2.1, ())) else (some (a0, a1, q1.1, a3, a4, a5, a6, a7, a8, a9, a10, a11, a12, a13, a14, a15, a16, a17, a18, a19, a20, a21, a22, q1.2.1, ()))))
noncomputable def fuse_Go_gu (K : Nat) (t : fuse_Go_h.T) : Option (Int × Int × Int × Int × Int × Int × Int × Int × Int × Int × Int × Int × Int × Int × Int × Int × Int × Int × Int × Int × Int × Int × Int × Int × Unit) :=
  let u1 := t.2
  let u2 := u1.2
  let u3 := u2.2
  let u4 := u3.2
  let u5 := u4.2
  let u6 := u5.2
  let u7 := u6.2
  let u8 := u7.2
  let u9 := u8.2
  let u10 := u9.2
  let u11 := u10.2
  let u12 := u11.2
  let u13 := u12.2
  let u14 := u13.2
  let u15 := u14.2
  let u16 := u15.2
  let u17 := u16.2
  let u18 := u17.2
  let u19 := u18.2
  let u20 := u19.2
  let u21 := u20.2
  let u22 := u21.2
  fuse_Go_g K t.1 u1.1 u2.1 u3.1 u4.1 u5.1 u6.1 u7.1 u8.1 u9.1 u10.1 u11.1 u12.1 u13.1 u14.1 u15.1 u16.1 u17.1 u18.1 u19.1 u20.1 u21.1 u22.1
noncomputable def fuse_Go_o (K : Nat) : FO := fnFO fuse_Go_h fuse_Go_r fun t => fuse_Go_gu K t
theorem fuse_Go_ok (K : Nat) : FOok Tryz.prog 86 (fuse_Go_o K) := fnE Bs (fuse_Go_n K) [] [] (fuse_Go_k K) trivial 0 Tryz.func86 fun t => by kernel_rfl
/-! rest_Is -/
noncomputable def rest_Is_n (K : Nat) : List (FuncId × FO) := [(148, rest_of_o K), (149, rest_cell_right_o K)]
theorem rest_Is_k (K : Nat) : fnsOk Tryz.prog (rest_Is_n K) := ⟨rest_of_ok K, rest_cell_right_ok K, trivial⟩
noncomputable def rest_Is_h : Sh := ⟨2, [(0, .ag [i6, i6, i6, i6, i6, i6, i6, i6]), (1, .sc (i6))], [], []⟩
noncomputable def rest_Is_r : Sh := ⟨1, [(0, .sc (.b))], [], []⟩
noncomputable def rest_Is_g (K : Nat) (a0 a1 a2 a3 a4 a5 a6 a7 a8 : Int) : Option (Bool × Unit) :=
  ((rest_of_g K a0 a1 a2 a3 a4 a5 a6 a7 a8).bind fun q1 => ((rest_cell_right_g K q1.1 q1.2.1 q1.2.2.1 q1.2.2.2.1).bind fun q2 => (bif q2.1 then (some ((decide (q1.2.2.2.1 ≥ q1.2.2.1)), ())) else (some (false, ())))))
noncomputable def rest_Is_gu (K : Nat) (t : rest_Is_h.T) : Option (Bool × Unit) :=
  let u1 := t.2
  let u2 := u1.2
  let u3 := u2.2
  let u4 := u3.2
  let u5 := u4.2
  let u6 := u5.2
  let u7 := u6.2
  let u8 := u7.2
  rest_Is_g K t.1 u1.1 u2.1 u3.1 u4.1 u5.1 u6.1 u7.1 u8.1
noncomputable def rest_Is_o (K : Nat) : FO := fnFO rest_Is_h rest_Is_r fun t => rest_Is_gu K t
theorem rest_Is_ok (K : Nat) : FOok Tryz.prog 87 (rest_Is_o K) := fnE Bs (rest_Is_n K) [] [] (rest_Is_k K) trivial 0 Tryz.func87 fun t => by kernel_rfl
/-! model_may -/
noncomputable def model_may_n (K : Nat) : List (FuncId × FO) := [(144, model_units_o K), (116, model_span_has_o K), (49, model_Check_o K)]
theorem model_may_k (K : Nat) : fnsOk Tryz.prog (model_may_n K) := ⟨model_units_ok K, model_span_has_ok K, model_Check_ok K, trivial⟩
noncomputable def model_may_h : Sh := ⟨2, [(0, .ag [i6, i6, i6, i6, i6, i6, i6, i6]), (1, .sc (.slr0 0))], [], [(false, true, [r6])]⟩
noncomputable def model_may_r : Sh := ⟨1, [(0, .sc (i6))], [], []⟩
noncomputable def model_may_g (K : Nat) (a0 a1 a2 a3 a4 a5 a6 a7 : Int) (n8 : Nat) (m9 : (Nat → Int)) : Option (Int × Unit) :=
  ((model_units_g K).bind fun q1 => ((model_span_has_g K q1.1 q1.2.1 n8 m9).bind fun q2 => (bif (!q2.1) then (some (2, ())) else ((model_Check_g K a0 a1 a2 a3 a4 a5 a6 a7).bind fun q3 => (some (q3.1, ()))))))
noncomputable def model_may_gu (K : Nat) (t : model_may_h.T) : Option (Int × Unit) :=
  let u1 := t.2
  let u2 := u1.2
  let u3 := u2.2
  let u4 := u3.2
  let u5 := u4.2
  let u6 := u5.2
  let u7 := u6.2
  let u8 := u7.2
  let u9 := u8.2
  model_may_g K t.1 u1.1 u2.1 u3.1 u4.1 u5.1 u6.1 u7.1 u8.1 u9.1
noncomputable def model_may_o (K : Nat) : FO := fnFO model_may_h model_may_r fun t => model_may_gu K t
theorem model_may_ok (K : Nat) : FOok Tryz.prog 153 (model_may_o K) := fnE Bs (model_may_n K) [] [] (model_may_k K) trivial 0 Tryz.func153 fun t => by kernel_rfl
/-! model_Rested -/
noncomputable def model_Rested_n (K : Nat) : List (FuncId × FO) := [(153, model_may_o K), (155, model_drive_o K), (154, model_sum_o K)]
theorem model_Rested_k (K : Nat) : fnsOk Tryz.prog (model_Rested_n K) := ⟨model_may_ok K, model_drive_ok K, model_sum_ok K, trivial⟩
noncomputable def model_Rested_h : Sh := ⟨5, [(0, .ag [i6, i6, i6, i6, i6, i6, i6, i6]), (1, .sc (i6)), (2, .sc (i6)), (3, .sc (i6)), (4, .sc (i6))], [], []⟩
noncomputable def model_Rested_r : Sh := ⟨2, [(0, .sc (i6)), (1, .sc (i6))], [], []⟩
noncomputable def model_Rested_g (K : Nat) (a0 a1 a2 a3 a4 a5 a6 a7 a8 a9 a10 a11 : Int) : Option (Int × Int × Unit) :=
  ((model_may_g K a0 a1 a2 a3 a4 a5 a6 a7 4 (fun j => (selI [a8, a9, a10, a11] j))).bind fun q1 => (bif (q1.1 != 0) then (some (0, q1.1, ())) else ((model_drive_g K a10 a0).bind fun q2 => ((model_sum_g K 4 (fun j => (selI [a11, (wi64 (0 - q2.1)), (wi64 (0 - a8)), (wi64 (0 - a9))] j))).bind fun q3 => (some (q3.1, 0, ()))))))
noncomputable def model_Rested_gu (K : Nat) (t : model_Rested_h.T) : Option (Int × Int × Unit) :=
  let u1 := t.2
  let u2 := u1.2
  let u3 := u2.2
  let u4 := u3.2
  let u5 := u4.2
  let u6 := u5.2
  let u7 := u6.2
  let u8 := u7.2
  let u9 := u8.2
  let u10 := u9.2
  let u11 := u10.2
  model_Rested_g K t.1 u1.1 u2.1 u3.1 u4.1 u5.1 u6.1 u7.1 u8.1 u9.1 u10.1 u11.1
noncomputable def model_Rested_o (K : Nat) : FO := fnFO model_Rested_h model_Rested_r fun t => model_Rested_gu K t
theorem model_Rested_ok (K : Nat) : FOok Tryz.prog 88 (model_Rested_o K) := fnE Bs (model_Rested_n K) [] [] (model_Rested_k K) trivial 0 Tryz.func88 fun t => by kernel_rfl
/-! grid_row_value -/
noncomputable def grid_row_value_n (K : Nat) : List (FuncId × FO) := [(178, wide_MulNear_o K)]
theorem grid_row_value_k (K : Nat) : fnsOk Tryz.prog (grid_row_value_n K) := ⟨wide_MulNear_ok K, trivial⟩
noncomputable def grid_row_value_h : Sh := ⟨1, [(0, .ag [i6, i6, i6, i6, .slr0 0])], [], [(false, true, [r6])]⟩
noncomputable def grid_row_value_r : Sh := ⟨1, [(0, .sc (i6))], [], []⟩
noncomputable def grid_row_value_g (K : Nat) (a0 a1 a2 a3 : Int) (n4 : Nat) (m5 : (Nat → Int)) : Option (Int × Unit) :=
  (bif (a0 == 0) then (bif (decide (0 < ((n4 : Nat) : Int))) then (some ((m5 0), ())) else none) else (bif (a0 == ((n4 : Nat) : Int)) then (bif ((decide (0 ≤ (wi64 (a0 - 1)))) && (decide ((wi64 (a0 - 1)) < ((n4 : Nat) : Int)))) then (some ((m5 (Int.toNat (wi64 (a0 - 1)))), ())) else none) else (bif ((decide (0 ≤ a0)) && (decide (a0 < ((n4 : Nat) : Int)))) then (bif ((decide (0 ≤ (wi64 (a0 - 1)))) && (decide ((wi64 (a0 - 1)) < ((n4 : Nat) : Int)))) then ((wide_MulNear_g K (wi64 (a3 - a1)) (wi64 ((m5 (Int.toNat a0)) - (m5 (Int.toNat (wi64 (a0 - 1)))))) (wi64 (a2 - a1))).bind fun q1 => (bif ((decide (0 ≤ (wi64 (a0 - 1)))) && (decide ((wi64 (a0 - 1)) < ((n4 : Nat) : Int)))) then (some ((wi64 ((m5 (Int.toNat (wi64 (a0 - 1)))) + q1.1)), ())) else none)) else none) else none)))
noncomputable def grid_row_value_gu (K : Nat) (t : grid_row_value_h.T) : Option (Int × Unit) :=
  grid_row_value_g K t.1 t.2.1 t.2.2.1 t.2.2.2.1 t.2.2.2.2.1 t.2.2.2.2.2.1
noncomputable def grid_row_value_o (K : Nat) : FO := fnFO grid_row_value_h grid_row_value_r fun t => grid_row_value_gu K t
theorem grid_row_value_ok (K : Nat) : FOok Tryz.prog 205 (grid_row_value_o K) := fnE Bs (grid_row_value_n K) [] [] (grid_row_value_k K) trivial 0 Tryz.func205 fun t => by kernel_rfl
/-! grid_Column -/
noncomputable def grid_Column_n (K : Nat) : List (FuncId × FO) := [(50, grid_Check_o K), (205, grid_row_value_o K)]
theorem grid_Column_k (K : Nat) : fnsOk Tryz.prog (grid_Column_n K) := ⟨grid_Check_ok K, grid_row_value_ok K, trivial⟩
noncomputable def grid_Column_i : List (FuncId × Func) := [(203, Tryz.f203), (204, Tryz.f204)]
theorem grid_Column_j : inlOk Tryz.prog grid_Column_i := ⟨⟨Tryz.func203, by kernel_rfl⟩, ⟨Tryz.func204, by kernel_rfl⟩, trivial⟩
noncomputable def grid_Column_l0h : Sh := ⟨26, [(1, .sc (.lit (.fn 204 0 [.p 0 0 0 [], .p 1 0 0 []]))), (5, .sc (i6)), (6, .sc (i6))], [(78, [(2, .sc (.lit (.p 0 0 0 []))), (3, .sc (.lit (.p 1 0 0 []))), (7, .sc (i6))]), (0, [])], [(true, false, [.slr0 2, .slr0 3, .slr0 4]), (true, false, [i6]), (false, true, [r6]), (false, true, [r6]), (false, true, [r6])]⟩
noncomputable def grid_Column_l0x0 : Sh := ⟨26, [(5, .sc (i6))], [(78, [(2, .sc (.lit (.p 0 0 0 []))), (3, .sc (.lit (.p 1 0 0 []))), (7, .sc (i6))]), (0, [])], [(true, false, [.slr0 2, .slr0 3, .slr0 4]), (true, false, [i6]), (false, true, [r6]), (false, true, [r6]), (false, true, [r6])]⟩
noncomputable def grid_Column_l0r (K : Nat) (rec : Int → Int → Int → Nat → Nat → Nat → Int → (Nat → Int) → (Nat → Int) → (Nat → Int) → Option (Int × Int × Nat × Nat × Nat × Int × (Nat → Int) × (Nat → Int) × (Nat → Int) × Unit)) (a0 a1 a2 : Int) (n3 n4 n5 : Nat) (a6 : Int) (m7 m8 m9 : (Nat → Int)) : Option (Int × Int × Nat × Nat × Nat × Int × (Nat → Int) × (Nat → Int) × (Nat → Int) × Unit) :=
  (bif (decide (a0 < a1)) then (bif ((decide (0 ≤ (wi64 ((shR .u64 (wu64 ((wi64 (a0 + a1)))) 1))))) && (decide ((wi64 ((shR .u64 (wu64 ((wi64 (a0 + a1)))) 1))) < ((n4 : Nat) : Int)))) then (bif (!(decide ((m8 (Int.toNat (wi64 ((shR .u64 (wu64 ((wi64 (a0 + a1)))) 1))))) > a6))) then (rec (wi64 ((wi64 ((shR .u64 (wu64 ((wi64 (a0 + a1)))) 1))) + 1)) a1 a2 n3 n4 n5 a6 m7 m8 m9) else (rec a0 (wi64 ((shR .u64 (wu64 ((wi64 (a0 + a1)))) 1))) a2 n3 n4 n5 a6 m7 m8 m9)) else none) else (some (a0, a2, n3, n4, n5, a6, m7, m8, m9, ())))
noncomputable def grid_Column_l0 (K n : Nat) := itN (fun _ _ _ _ _ _ _ _ _ _ => none) (grid_Column_l0r K) n
noncomputable def grid_Column_l0u (K n : Nat) (t : grid_Column_l0h.T) : Option (Int × Int × Nat × Nat × Nat × Int × (Nat → Int) × (Nat → Int) × (Nat → Int) × Unit) :=
  let u1 := t.2
  let u2 := u1.2
  let u3 := u2.2
  let u4 := u3.2
  let u5 := u4.2
  let u6 := u5.2
  let u7 := u6.2
  let u8 := u7.2
  let u9 := u8.2
  grid_Column_l0 K n t.1 u1.1 u2.1 u3.1 u4.1 u5.1 u6.1 u7.1 u8.1 u9.1
noncomputable def grid_Column_l0E (K : Nat) : LoopE Tryz.prog := lpE Bs (grid_Column_n K) grid_Column_i [] (grid_Column_k K) grid_Column_j 9 Tryz.func203 2 [2, 196613, 185] grid_Column_l0h (OutI.exit 0 grid_Column_l0x0) (fun n t => grid_Column_l0u K n t) (fun _ => rfl) (fun n t => by kernel_rfl) K
noncomputable def grid_Column_l1h : Sh := ⟨78, [(2, .sc (.lit (.p 0 0 0 []))), (7, .sc (i6)), (8, .sc (.lit (.p 1 0 0 []))), (9, .sc (.slr0 2)), (50, .sc (.slr0 3)), (51, .sc (i6)), (52, .sc (i6))], [(0, [])], [(true, false, [.slr0 3, .slr0 4, .slr0 5]), (true, false, [i6, i6, i6, i6]), (true, true, [r6, r6]), (false, true, [r6]), (false, true, [r6]), (false, true, [r6])]⟩
noncomputable def grid_Column_l1x0 : Sh := ⟨78, [(9, .sc (.slr0 0))], [(0, [])], [(true, true, [r6, r6])]⟩
noncomputable def grid_Column_l1r (K : Nat) (rec : Int → Nat → Nat → Int → Int → Nat → Nat → Nat → Int → Int → Int → Int → (Nat → Int) → (Nat → Int) → (Nat → Int) → (Nat → Int) → (Nat → Int) → Option (Nat × (Nat → Int) × (Nat → Int) × Unit)) (a0 : Int) (n1 n2 : Nat) (a3 a4 : Int) (n5 n6 n7 : Nat) (a8 a9 a10 a11 : Int) (m12 m13 m14 m15 m16 : (Nat → Int)) : Option (Nat × (Nat → Int) × (Nat → Int) × Unit) :=
  (bif (decide (a4 < a3)) then (bif ((decide (0 ≤ a4)) && (decide (a4 < ((n2 : Nat) : Int)))) then (bif (((decide (0 ≤ (wi64 (a4 * a0)))) && (decide ((wi64 (a4 * a0)) ≤ (wi64 ((wi64 (a4 * a0)) + a0))))) && (decide ((wi64 ((wi64 (a4 * a0)) + a0)) ≤ ((n7 : Nat) : Int)))) then ((grid_row_value_g K a8 a9 a10 a11 ((Int.toNat (wi64 ((wi64 (a4 * a0)) + a0))) - (Int.toNat (wi64 (a4 * a0)))) (fun j => (m16 (j + (Int.toNat (wi64 (a4 * a0))))))).bind fun q1 => (bif (Nat.ble ((n1 + 1) * 16) 140737488355328) then (rec a0 (n1 + 1) n2 a3 (wi64 (a4 + 1)) n5 n6 n7 a8 a9 a10 a11 (fun j => (bif (Nat.blt j n1) then (m12 j) else (selI [(m14 (Int.toNat a4))] (j - n1)))) (fun j => (bif (Nat.blt j n1) then (m13 j) else (selI [q1.1] (j - n1)))) m14 m15 m16) else none)) else none) else none) else (some (n1, m12, m13, ())))
noncomputable def grid_Column_l1 (K n : Nat) := itN (fun _ _ _ _ _ _ _ _ _ _ _ _ _ _ _ _ _ => none) (grid_Column_l1r K) n
noncomputable def grid_Column_l1u (K n : Nat) (t : grid_Column_l1h.T) : Option (Nat × (Nat → Int) × (Nat → Int) × Unit) :=
  let u1 := t.2
  let u2 := u1.2
  let u3 := u2.2
  let u4 := u3.2
  let u5 := u4.2
  let u6 := u5.2
  let u7 := u6.2
  let u8 := u7.2
  let u9 := u8.2
  let u10 := u9.2
  let u11 := u10.2
  let u12 := u11.2
  let u13 := u12.2
  let u14 := u13.2
  let u15 := u14.2
  let u16 := u15.2
  grid_Column_l1 K n t.1 u1.1 u2.1 u3.1 u4.1 u5.1 u6.1 u7.1 u8.1 u9.1 u10.1 u11.1 u12.1 u13.1 u14.1 u15.1 u16.1
noncomputable def grid_Column_l1E (K : Nat) : LoopE Tryz.prog := lpE Bs (grid_Column_n K) grid_Column_i [grid_Column_l0E K] (grid_Column_k K) grid_Column_j 9 Tryz.func185 10 [] grid_Column_l1h (OutI.exit 0 grid_Column_l1x0) (fun n t => grid_Column_l1u K n t) (fun _ => rfl) (fun n t => by kernel_rfl) K
noncomputable def grid_Column_l2h : Sh := ⟨26, [(1, .sc (.lit (.fn 204 0 [.p 0 0 0 [], .p 1 0 0 []]))), (5, .sc (i6)), (6, .sc (i6))], [(78, [(2, .sc (.lit (.p 0 0 0 []))), (7, .sc (i6)), (23, .sc (i6))]), (0, [])], [(true, false, [.slr0 2, .slr0 3, .slr0 4]), (true, false, [i6]), (false, true, [r6]), (false, true, [r6]), (false, true, [r6])]⟩
noncomputable def grid_Column_l2x0 : Sh := ⟨26, [(5, .sc (i6))], [(78, [(2, .sc (.lit (.p 0 0 0 []))), (7, .sc (i6)), (23, .sc (i6))]), (0, [])], [(true, false, [.slr0 1, .slr0 2, .slr0 3]), (false, true, [r6]), (false, true, [r6]), (false, true, [r6])]⟩
noncomputable def grid_Column_l2r (K : Nat) (rec : Int → Int → Int → Int → Nat → Nat → Nat → Int → (Nat → Int) → (Nat → Int) → (Nat → Int) → Option (Int × Int × Int × Nat × Nat × Nat × (Nat → Int) × (Nat → Int) × (Nat → Int) × Unit)) (a0 a1 a2 a3 : Int) (n4 n5 n6 : Nat) (a7 : Int) (m8 m9 m10 : (Nat → Int)) : Option (Int × Int × Int × Nat × Nat × Nat × (Nat → Int) × (Nat → Int) × (Nat → Int) × Unit) :=
  (bif (decide (a0 < a1)) then (bif ((decide (0 ≤ (wi64 ((shR .u64 (wu64 ((wi64 (a0 + a1)))) 1))))) && (decide ((wi64 ((shR .u64 (wu64 ((wi64 (a0 + a1)))) 1))) < ((n5 : Nat) : Int)))) then (bif (!(decide ((m9 (Int.toNat (wi64 ((shR .u64 (wu64 ((wi64 (a0 + a1)))) 1))))) > a7))) then (rec (wi64 ((wi64 ((shR .u64 (wu64 ((wi64 (a0 + a1)))) 1))) + 1)) a1 a2 a3 n4 n5 n6 a7 m8 m9 m10) else (rec a0 (wi64 ((shR .u64 (wu64 ((wi64 (a0 + a1)))) 1))) a2 a3 n4 n5 n6 a7 m8 m9 m10)) else none) else (some (a0, a2, a3, n4, n5, n6, m8, m9, m10, ())))
noncomputable def grid_Column_l2 (K n : Nat) := itN (fun _ _ _ _ _ _ _ _ _ _ _ => none) (grid_Column_l2r K) n
noncomputable def grid_Column_l2u (K n : Nat) (t : grid_Column_l2h.T) : Option (Int × Int × Int × Nat × Nat × Nat × (Nat → Int) × (Nat → Int) × (Nat → Int) × Unit) :=
  let u1 := t.2
  let u2 := u1.2
  let u3 := u2.2
  let u4 := u3.2
  let u5 := u4.2
  let u6 := u5.2
  let u7 := u6.2
  let u8 := u7.2
  let u9 := u8.2
  let u10 := u9.2
  grid_Column_l2 K n t.1 u1.1 u2.1 u3.1 u4.1 u5.1 u6.1 u7.1 u8.1 u9.1 u10.1
noncomputable def grid_Column_l2E (K : Nat) : LoopE Tryz.prog := lpE Bs (grid_Column_n K) grid_Column_i [grid_Column_l0E K, grid_Column_l1E K] (grid_Column_k K) grid_Column_j 9 Tryz.func203 2 [2, 720901, 185] grid_Column_l2h (OutI.exit 0 grid_Column_l2x0) (fun n t => grid_Column_l2u K n t) (fun _ => rfl) (fun n t => by kernel_rfl) K
noncomputable def grid_Column_l3h : Sh := ⟨26, [(1, .sc (.lit (.fn 204 0 [.p 0 0 0 [], .p 1 0 0 []]))), (5, .sc (i6)), (6, .sc (i6))], [(78, [(2, .sc (.lit (.p 0 0 0 []))), (7, .sc (i6)), (8, .sc (.lit (.p 2 0 0 []))), (23, .sc (i6))]), (0, [])], [(true, false, [.slr0 3, .slr0 4, .slr0 5]), (true, false, [i6]), (true, false, [i6, i6, i6, i6]), (false, true, [r6]), (false, true, [r6]), (false, true, [r6])]⟩
noncomputable def grid_Column_l3x0 : Sh := ⟨26, [(5, .sc (i6))], [(78, [(2, .sc (.lit (.p 0 0 0 []))), (7, .sc (i6)), (8, .sc (.lit (.p 1 0 0 []))), (23, .sc (i6))]), (0, [])], [(true, false, [.slr0 2, .slr0 3, .slr0 4]), (true, false, [i6, i6, i6, i6]), (false, true, [r6]), (false, true, [r6]), (false, true, [r6])]⟩
noncomputable def grid_Column_l3r (K : Nat) (rec : Int → Int → Int → Int → Nat → Nat → Nat → Int → Int → Int → Int → Int → (Nat → Int) → (Nat → Int) → (Nat → Int) → Option (Int × Int × Int × Nat × Nat × Nat × Int × Int × Int × Int × (Nat → Int) × (Nat → Int) × (Nat → Int) × Unit)) (a0 a1 a2 a3 : Int) (n4 n5 n6 : Nat) (a7 a8 a9 a10 a11 : Int) (m12 m13 m14 : (Nat → Int)) : Option (Int × Int × Int × Nat × Nat × Nat × Int × Int × Int × Int × (Nat → Int) × (Nat → Int) × (Nat → Int) × Unit) :=
  (bif (decide (a0 < a1)) then (bif ((decide (0 ≤ (wi64 ((shR .u64 (wu64 ((wi64 (a0 + a1)))) 1))))) && (decide ((wi64 ((shR .u64 (wu64 ((wi64 (a0 + a1)))) 1))) < ((n5 : Nat) : Int)))) then (bif (!(decide ((m13 (Int.toNat (wi64 ((shR .u64 (wu64 ((wi64 (a0 + a1)))) 1))))) > a7))) then (rec (wi64 ((wi64 ((shR .u64 (wu64 ((wi64 (a0 + a1)))) 1))) + 1)) a1 a2 a3 n4 n5 n6 a7 a8 a9 a10 a11 m12 m13 m14) else (rec a0 (wi64 ((shR .u64 (wu64 ((wi64 (a0 + a1)))) 1))) a2 a3 n4 n5 n6 a7 a8 a9 a10 a11 m12 m13 m14)) else none) else (some (a0, a2, a3, n4, n5, n6, a8, a9, a10, a11, m12, m13, m14, ())))
noncomputable def grid_Column_l3 (K n : Nat) := itN (fun _ _ _ _ _ _ _ _ _ _ _ _ _ _ _ => none) (grid_Column_l3r K) n
noncomputable def grid_Column_l3u (K n : Nat) (t : grid_Column_l3h.T) : Option (Int × Int × Int × Nat × Nat × Nat × Int × Int × Int × Int × (Nat → Int) × (Nat → Int) × (Nat → Int) × Unit) :=
  let u1 := t.2
  let u2 := u1.2
  let u3 := u2.2
  let u4 := u3.2
  let u5 := u4.2
  let u6 := u5.2
  let u7 := u6.2
  let u8 := u7.2
  let u9 := u8.2
  let u10 := u9.2
  let u11 := u10.2
  let u12 := u11.2
  let u13 := u12.2
  let u14 := u13.2
  grid_Column_l3 K n t.1 u1.1 u2.1 u3.1 u4.1 u5.1 u6.1 u7.1 u8.1 u9.1 u10.1 u11.1 u12.1 u13.1 u14.1
noncomputable def grid_Column_l3E (K : Nat) : LoopE Tryz.prog := lpE Bs (grid_Column_n K) grid_Column_i [grid_Column_l0E K, grid_Column_l1E K, grid_Column_l2E K] (grid_Column_k K) grid_Column_j 9 Tryz.func203 2 [2, 2818053, 185] grid_Column_l3h (OutI.exit 0 grid_Column_l3x0) (fun n t => grid_Column_l3u K n t) (fun _ => rfl) (fun n t => by kernel_rfl) K
noncomputable def grid_Column_l4h : Sh := ⟨26, [(1, .sc (.lit (.fn 204 0 [.p 0 0 0 [], .p 1 0 0 []]))), (5, .sc (i6)), (6, .sc (i6))], [(78, [(2, .sc (.lit (.p 0 0 0 []))), (3, .sc (.lit (.p 1 0 0 []))), (7, .sc (i6)), (8, .sc (.lit (.p 2 0 0 [])))]), (0, [])], [(true, false, [.slr0 3, .slr0 4, .slr0 5]), (true, false, [i6]), (true, false, [i6, i6, i6, i6]), (false, true, [r6]), (false, true, [r6]), (false, true, [r6])]⟩
noncomputable def grid_Column_l4x0 : Sh := ⟨26, [(5, .sc (i6))], [(78, [(2, .sc (.lit (.p 0 0 0 []))), (3, .sc (.lit (.p 1 0 0 []))), (7, .sc (i6)), (8, .sc (.lit (.p 2 0 0 [])))]), (0, [])], [(true, false, [.slr0 3, .slr0 4, .slr0 5]), (true, false, [i6]), (true, false, [i6, i6, i6, i6]), (false, true, [r6]), (false, true, [r6]), (false, true, [r6])]⟩
noncomputable def grid_Column_l4r (K : Nat) (rec : Int → Int → Int → Nat → Nat → Nat → Int → Int → Int → Int → Int → (Nat → Int) → (Nat → Int) → (Nat → Int) → Option (Int × Int × Nat × Nat × Nat × Int × Int × Int × Int × Int × (Nat → Int) × (Nat → Int) × (Nat → Int) × Unit)) (a0 a1 a2 : Int) (n3 n4 n5 : Nat) (a6 a7 a8 a9 a10 : Int) (m11 m12 m13 : (Nat → Int)) : Option (Int × Int × Nat × Nat × Nat × Int × Int × Int × Int × Int × (Nat → Int) × (Nat → Int) × (Nat → Int) × Unit) :=
  (bif (decide (a0 < a1)) then (bif ((decide (0 ≤ (wi64 ((shR .u64 (wu64 ((wi64 (a0 + a1)))) 1))))) && (decide ((wi64 ((shR .u64 (wu64 ((wi64 (a0 + a1)))) 1))) < ((n4 : Nat) : Int)))) then (bif (!(decide ((m12 (Int.toNat (wi64 ((shR .u64 (wu64 ((wi64 (a0 + a1)))) 1))))) > a6))) then (rec (wi64 ((wi64 ((shR .u64 (wu64 ((wi64 (a0 + a1)))) 1))) + 1)) a1 a2 n3 n4 n5 a6 a7 a8 a9 a10 m11 m12 m13) else (rec a0 (wi64 ((shR .u64 (wu64 ((wi64 (a0 + a1)))) 1))) a2 n3 n4 n5 a6 a7 a8 a9 a10 m11 m12 m13)) else none) else (some (a0, a2, n3, n4, n5, a6, a7, a8, a9, a10, m11, m12, m13, ())))
noncomputable def grid_Column_l4 (K n : Nat) := itN (fun _ _ _ _ _ _ _ _ _ _ _ _ _ _ => none) (grid_Column_l4r K) n
noncomputable def grid_Column_l4u (K n : Nat) (t : grid_Column_l4h.T) : Option (Int × Int × Nat × Nat × Nat × Int × Int × Int × Int × Int × (Nat → Int) × (Nat → Int) × (Nat → Int) × Unit) :=
  let u1 := t.2
  let u2 := u1.2
  let u3 := u2.2
  let u4 := u3.2
  let u5 := u4.2
  let u6 := u5.2
  let u7 := u6.2
  let u8 := u7.2
  let u9 := u8.2
  let u10 := u9.2
  let u11 := u10.2
  let u12 := u11.2
  let u13 := u12.2
  grid_Column_l4 K n t.1 u1.1 u2.1 u3.1 u4.1 u5.1 u6.1 u7.1 u8.1 u9.1 u10.1 u11.1 u12.1 u13.1
noncomputable def grid_Column_l4E (K : Nat) : LoopE Tryz.prog := lpE Bs (grid_Column_n K) grid_Column_i [grid_Column_l0E K, grid_Column_l1E K, grid_Column_l2E K, grid_Column_l3E K] (grid_Column_k K) grid_Column_j 9 Tryz.func203 2 [2, 2293765, 185] grid_Column_l4h (OutI.exit 0 grid_Column_l4x0) (fun n t => grid_Column_l4u K n t) (fun _ => rfl) (fun n t => by kernel_rfl) K
noncomputable def grid_Column_h : Sh := ⟨2, [(0, .ag [.slr0 0, .slr0 1, .slr0 2]), (1, .sc (i6))], [], [(false, true, [r6]), (false, true, [r6]), (false, true, [r6])]⟩
noncomputable def grid_Column_r : Sh := ⟨2, [(0, .sc (.slr0 0)), (1, .sc (i6))], [], [(true, true, [r6, r6])]⟩
noncomputable def grid_Column_g (K : Nat) (n0 n1 n2 : Nat) (a3 : Int) (m4 m5 m6 : (Nat → Int)) : Option (Nat × Int × (Nat → Int) × (Nat → Int) × Unit) :=
  ((grid_Check_g K n0 n1 n2 m4 m5 m6).bind fun q1 => (bif (q1.1 != 0) then (some (0, q1.1, (fun _ => 0), (fun _ => 0), ())) else (agree ((grid_Column_l0 K K 0 ((n1 : Nat) : Int) ((n1 : Nat) : Int) n0 n1 n2 a3 m4 m5 m6).bind fun q2 => let q2_1 := q2.2; let q2_2 := q2_1.2; let q2_3 := q2_2.2; let q2_4 := q2_3.2; let q2_5 := q2_4.2; let q2_6 := q2_5.2; let q2_7 := q2_6.2; let q2_8 := q2_7.2; (agree (agN 1 (bif (decide (q2.1 > 0)) then (bif (decide (q2.1 < q2_1.1)) then (bif ((decide (0 ≤ (wi64 (q2.1 - 1)))) && (decide ((wi64 (q2.1 - 1)) < ((q2_3.1 : Nat) : Int)))) then (bif ((decide (0 ≤ q2.1)) && (decide (q2.1 < ((q2_3.1 : Nat) : Int)))) then ((grid_Column_l1 K K q2_1.1 0 q2_2.1 ((q2_2.1 : Nat) : Int) 0 q2_2.1 q2_3.1 q2_4.1 q2.1 (q2_7.1 (Int.toNat (wi64 (q2.1 - 1)))) (q2_7.1 (Int.toNat q2.1)) q2_5.1 (fun _ => 0) (fun _ => 0) q2_6.1 q2_7.1 q2_8.1).bind fun q3 => (some (q3.1, 0, q3.2.1, q3.2.2.1, ()))) else none) else none) else ((grid_Column_l1 K K q2_1.1 0 q2_2.1 ((q2_2.1 : Nat) : Int) 0 q2_2.1 q2_3.1 q2_4.1 q2.1 0 0 q2_5.1 (fun _ => 0) (fun _ => 0) q2_6.1 q2_7.1 q2_8.1).bind fun q4 => (some (q4.1, 0, q4.2.1, q4.2.2.1, ())))) else ((grid_Column_l1 K K q2_1.1 0 q2_2.1 ((q2_2.1 : Nat) : Int) 0 q2_2.1 q2_3.1 q2_4.1 q2.1 0 0 q2_5.1 (fun _ => 0) (fun _ => 0) q2_6.1 q2_7.1 q2_8.1).bind fun q5 => (some (q5.1, 0, q5.2.1, q5.2.2.1, ()))))) (bif (decide (q2.1 > 0)) then (bif (decide (q2.1 < q2_1.1)) then (bif ((decide (0 ≤ (wi64 (q2.1 - 1)))) && (decide ((wi64 (q2.1 - 1)) < ((q2_3.1 : Nat) : Int)))) then (bif ((decide (0 ≤ q2.1)) && (decide (q2.1 < ((q2_3.1 : Nat) : Int)))) then ((grid_Column_l1 K K q2_1.1 0 q2_2.1 ((q2_2.1 : Nat) : Int) 0 q2_2.1 q2_3.1 q2_4.1 q2.1 (q2_7.1 (Int.toNat (wi64 (q2.1 - 1)))) (q2_7.1 (Int.toNat q2.1)) q2_5.1 (fun _ => 0) (fun _ => 0) q2_6.1 q2_7.1 q2_8.1).bind fun q3 => (some (q3.1, 0, q3.2.1, q3.2.2.1, ()))) else none) else none) else ((grid_Column_l1 K K q2_1.1 0 q2_2.1 ((q2_2.1 : Nat) : Int) 0 q2_2.1 q2_3.1 q2_4.1 q2.1 0 0 q2_5.1 (fun _ => 0) (fun _ => 0) q2_6.1 q2_7.1 q2_8.1).bind fun q4 => (some (q4.1, 0, q4.2.1, q4.2.2.1, ())))) else ((grid_Column_l1 K K q2_1.1 0 q2_2.1 ((q2_2.1 : Nat) : Int) 0 q2_2.1 q2_3.1 q2_4.1 q2.1 0 0 q2_5.1 (fun _ => 0) (fun _ => 0) q2_6.1 q2_7.1 q2_8.1).bind fun q5 => (some (q5.1, 0, q5.2.1, q5.2.2.1, ())))))) (agree (agree ((grid_Column_l2 K K 0 ((n1 : Nat) : Int) ((n1 : Nat) : Int) a3 n0 n1 n2 a3 m4 m5 m6).bind fun q2 => let q2_1 := q2.2; let q2_2 := q2_1.2; let q2_3 := q2_2.2; let q2_4 := q2_3.2; let q2_5 := q2_4.2; let q2_6 := q2_5.2; let q2_7 := q2_6.2; let q2_8 := q2_7.2; (agN 1 (bif (decide (q2.1 > 0)) then (bif (decide (q2.1 < q2_1.1)) then (bif ((decide (0 ≤ (wi64 (q2.1 - 1)))) && (decide ((wi64 (q2.1 - 1)) < ((q2_4.1 : Nat) : Int)))) then (bif ((decide (0 ≤ q2.1)) && (decide (q2.1 < ((q2_4.1 : Nat) : Int)))) then ((grid_Column_l1 K K q2_1.1 0 q2_3.1 ((q2_3.1 : Nat) : Int) 0 q2_3.1 q2_4.1 q2_5.1 q2.1 (q2_7.1 (Int.toNat (wi64 (q2.1 - 1)))) (q2_7.1 (Int.toNat q2.1)) q2_2.1 (fun _ => 0) (fun _ => 0) q2_6.1 q2_7.1 q2_8.1).bind fun q3 => (some (q3.1, 0, q3.2.1, q3.2.2.1, ()))) else none) else none) else ((grid_Column_l1 K K q2_1.1 0 q2_3.1 ((q2_3.1 : Nat) : Int) 0 q2_3.1 q2_4.1 q2_5.1 q2.1 0 0 q2_2.1 (fun _ => 0) (fun _ => 0) q2_6.1 q2_7.1 q2_8.1).bind fun q4 => (some (q4.1, 0, q4.2.1, q4.2.2.1, ())))) else ((grid_Column_l1 K K q2_1.1 0 q2_3.1 ((q2_3.1 : Nat) : Int) 0 q2_3.1 q2_4.1 q2_5.1 q2.1 0 0 q2_2.1 (fun _ => 0) (fun _ => 0) q2_6.1 q2_7.1 q2_8.1).bind fun q5 => (some (q5.1, 0, q5.2.1, q5.2.2.1, ())))))) ((grid_Column_l3 K K 0 ((n1 : Nat) : Int) ((n1 : Nat) : Int) a3 n0 n1 n2 a3 0 0 0 0 m4 m5 m6).bind fun q2 => let q2_1 := q2.2; let q2_2 := q2_1.2; let q2_3 := q2_2.2; let q2_4 := q2_3.2; let q2_5 := q2_4.2; let q2_6 := q2_5.2; let q2_7 := q2_6.2; let q2_8 := q2_7.2; let q2_9 := q2_8.2; let q2_10 := q2_9.2; let q2_11 := q2_10.2; let q2_12 := q2_11.2; (bif (decide (q2.1 > 0)) then (bif (decide (q2.1 < q2_1.1)) then (bif ((decide (0 ≤ (wi64 (q2.1 - 1)))) && (decide ((wi64 (q2.1 - 1)) < ((q2_4.1 : Nat) : Int)))) then (bif ((decide (0 ≤ q2.1)) && (decide (q2.1 < ((q2_4.1 : Nat) : Int)))) then ((grid_Column_l1 K K q2_1.1 0 q2_3.1 ((q2_3.1 : Nat) : Int) 0 q2_3.1 q2_4.1 q2_5.1 q2.1 (q2_11.1 (Int.toNat (wi64 (q2.1 - 1)))) (q2_11.1 (Int.toNat q2.1)) q2_2.1 (fun _ => 0) (fun _ => 0) q2_10.1 q2_11.1 q2_12.1).bind fun q3 => (some (q3.1, 0, q3.2.1, q3.2.2.1, ()))) else none) else none) else ((grid_Column_l1 K K q2_1.1 0 q2_3.1 ((q2_3.1 : Nat) : Int) 0 q2_3.1 q2_4.1 q2_5.1 q2.1 0 0 q2_2.1 (fun _ => 0) (fun _ => 0) q2_10.1 q2_11.1 q2_12.1).bind fun q4 => (some (q4.1, 0, q4.2.1, q4.2.2.1, ())))) else ((grid_Column_l1 K K q2_1.1 0 q2_3.1 ((q2_3.1 : Nat) : Int) 0 q2_3.1 q2_4.1 q2_5.1 q2.1 0 0 q2_2.1 (fun _ => 0) (fun _ => 0) q2_10.1 q2_11.1 q2_12.1).bind fun q5 => (some (q5.1, 0, q5.2.1, q5.2.2.1, ())))))) (agree ((grid_Column_l4 K K 0 ((n1 : Nat) : Int) ((n1 : Nat) : Int) n0 n1 n2 a3 0 0 0 0 m4 m5 m6).bind fun q2 => let q2_1 := q2.2; let q2_2 := q2_1.2; let q2_3 := q2_2.2; let q2_4 := q2_3.2; let q2_5 := q2_4.2; let q2_6 := q2_5.2; let q2_7 := q2_6.2; let q2_8 := q2_7.2; let q2_9 := q2_8.2; let q2_10 := q2_9.2; let q2_11 := q2_10.2; let q2_12 := q2_11.2; (bif (decide (q2.1 > 0)) then (bif (decide (q2.1 < q2_1.1)) then (bif ((decide (0 ≤ (wi64 (q2.1 - 1)))) && (decide ((wi64 (q2.1 - 1)) < ((q2_3.1 : Nat) : Int)))) then (bif ((decide (0 ≤ q2.1)) && (decide (q2.1 < ((q2_3.1 : Nat) : Int)))) then ((grid_Column_l1 K K q2_1.1 0 q2_2.1 ((q2_2.1 : Nat) : Int) 0 q2_2.1 q2_3.1 q2_4.1 q2.1 (q2_11.1 (Int.toNat (wi64 (q2.1 - 1)))) (q2_11.1 (Int.toNat q2.1)) q2_5.1 (fun _ => 0) (fun _ => 0) q2_10.1 q2_11.1 q2_12.1).bind fun q3 => (some (q3.1, 0, q3.2.1, q3.2.2.1, ()))) else none) else none) else ((grid_Column_l1 K K q2_1.1 0 q2_2.1 ((q2_2.1 : Nat) : Int) 0 q2_2.1 q2_3.1 q2_4.1 q2.1 0 0 q2_5.1 (fun _ => 0) (fun _ => 0) q2_10.1 q2_11.1 q2_12.1).bind fun q4 => (some (q4.1, 0, q4.2.1, q4.2.2.1, ())))) else ((grid_Column_l1 K K q2_1.1 0 q2_2.1 ((q2_2.1 : Nat) : Int) 0 q2_2.1 q2_3.1 q2_4.1 q2.1 0 0 q2_5.1 (fun _ => 0) (fun _ => 0) q2_10.1 q2_11.1 q2_12.1).bind fun q5 => (some (q5.1, 0, q5.2.1, q5.2.2.1, ()))))) ((grid_Column_l3 K K 0 ((n1 : Nat) : Int) ((n1 : Nat) : Int) a3 n0 n1 n2 a3 0 0 0 0 m4 m5 m6).bind fun q2 => let q2_1 := q2.2; let q2_2 := q2_1.2; let q2_3 := q2_2.2; let q2_4 := q2_3.2; let q2_5 := q2_4.2; let q2_6 := q2_5.2; let q2_7 := q2_6.2; let q2_8 := q2_7.2; let q2_9 := q2_8.2; let q2_10 := q2_9.2; let q2_11 := q2_10.2; let q2_12 := q2_11.2; (bif (decide (q2.1 > 0)) then (bif (decide (q2.1 < q2_1.1)) then (bif ((decide (0 ≤ (wi64 (q2.1 - 1)))) && (decide ((wi64 (q2.1 - 1)) < ((q2_4.1 : Nat) : Int)))) then (bif ((decide (0 ≤ q2.1)) && (decide (q2.1 < ((q2_4.1 : Nat) : Int)))) then ((grid_Column_l1 K K q2_1.1 0 q2_3.1 ((q2_3.1 : Nat) : Int) 0 q2_3.1 q2_4.1 q2_5.1 q2.1 (q2_11.1 (Int.toNat (wi64 (q2.1 - 1)))) (q2_11.1 (Int.toNat q2.1)) q2_2.1 (fun _ => 0) (fun _ => 0) q2_10.1 q2_11.1 q2_12.1).bind fun q3 => (some (q3.1, 0, q3.2.1, q3.2.2.1, ()))) else none) else none) else ((grid_Column_l1 K K q2_1.1 0 q2_3.1 ((q2_3.1 : Nat) : Int) 0 q2_3.1 q2_4.1 q2_5.1 q2.1 0 0 q2_2.1 (fun _ => 0) (fun _ => 0) q2_10.1 q2_11.1 q2_12.1).bind fun q4 => (some (q4.1, 0, q4.2.1, q4.2.2.1, ())))) else ((grid_Column_l1 K K q2_1.1 0 q2_3.1 ((q2_3.1 : Nat) : Int) 0 q2_3.1 q2_4.1 q2_5.1 q2.1 0 0 q2_2.1 (fun _ => 0) (fun _ => 0) q2_10.1 q2_11.1 q2_12.1).bind fun q5 => (some (q5.1, 0, q5.2.1, q5.2.2.1, ()))))))))))
noncomputable def grid_Column_gu (K : Nat) (t : grid_Column_h.T) : Option (Nat × Int × (Nat → Int) × (Nat → Int) × Unit) :=
  grid_Column_g K t.1 t.2.1 t.2.2.1 t.2.2.2.1 t.2.2.2.2.1 t.2.2.2.2.2.1 t.2.2.2.2.2.2.1
noncomputable def grid_Column_o (K : Nat) : FO := fnFO grid_Column_h grid_Column_r fun t => grid_Column_gu K t
theorem grid_Column_ok (K : Nat) : FOok Tryz.prog 185 (grid_Column_o K) := fnE Bs (grid_Column_n K) grid_Column_i [grid_Column_l0E K, grid_Column_l1E K, grid_Column_l2E K, grid_Column_l3E K, grid_Column_l4E K] (grid_Column_k K) grid_Column_j 9 Tryz.func185 fun t => by kernel_rfl
/-! table_within -/
noncomputable def table_within_h : Sh := ⟨1, [(0, .sc (i6))], [], []⟩
noncomputable def table_within_r : Sh := ⟨1, [(0, .sc (.b))], [], []⟩
noncomputable def table_within_g (K : Nat) (a0 : Int) : Option (Bool × Unit) :=
  (bif (decide (a0 ≥ (-2147483648))) then (some ((decide (a0 ≤ 2147483648)), ())) else (some (false, ())))
noncomputable def table_within_o (K : Nat) : FO := fnFO table_within_h table_within_r fun t => table_within_g K t.1
theorem table_within_ok (K : Nat) : FOok Tryz.prog 217 (table_within_o K) := fnE Bs [] [] [] trivial trivial 0 Tryz.func217 fun t => by kernel_rfl
/-! table_Check -/
noncomputable def table_Check_n (K : Nat) : List (FuncId × FO) := [(217, table_within_o K)]
theorem table_Check_k (K : Nat) : fnsOk Tryz.prog (table_Check_n K) := ⟨table_within_ok K, trivial⟩
noncomputable def table_Check_l0h : Sh := ⟨46, [(0, .sc (.slr0 0)), (13, .sc (.slr0 0)), (14, .sc (i6)), (15, .sc (i6))], [(0, [])], [(false, true, [r6, r6])]⟩
noncomputable def table_Check_l0x0 : Sh := ⟨46, [], [(0, [])], []⟩
noncomputable def table_Check_l0x1 : Sh := ⟨46, [(2, .sc (i6))], [(0, [])], []⟩
noncomputable def table_Check_l0r (K : Nat) (rec : Nat → Nat → Int → Int → (Nat → Int) → (Nat → Int) → Option ((Unit) ⊕ (Int × Unit))) (n0 n1 : Nat) (a2 a3 : Int) (m4 m5 : (Nat → Int)) : Option ((Unit) ⊕ (Int × Unit)) :=
  (bif (decide (a3 < a2)) then (bif ((decide (0 ≤ a3)) && (decide (a3 < ((n1 : Nat) : Int)))) then ((table_within_g K (m4 (Int.toNat a3))).bind fun q1 => (bif (!q1.1) then (some (.inr (100, ()))) else ((table_within_g K (m5 (Int.toNat a3))).bind fun q2 => (bif (!q2.1) then (some (.inr (100, ()))) else (bif (decide (a3 > 0)) then (bif ((decide (0 ≤ (wi64 (a3 - 1)))) && (decide ((wi64 (a3 - 1)) < ((n0 : Nat) : Int)))) then (bif (decide ((m4 (Int.toNat a3)) ≤ (m4 (Int.toNat (wi64 (a3 - 1)))))) then (some (.inr (100, ()))) else (rec n0 n1 a2 (wi64 (a3 + 1)) m4 m5)) else none) else (rec n0 n1 a2 (wi64 (a3 + 1)) m4 m5)))))) else none) else (some (.inl (()))))
noncomputable def table_Check_l0 (K n : Nat) := itN (fun _ _ _ _ _ _ => none) (table_Check_l0r K) n
noncomputable def table_Check_l0u (K n : Nat) (t : table_Check_l0h.T) : Option ((Unit) ⊕ (Int × Unit)) :=
  table_Check_l0 K n t.1 t.2.1 t.2.2.1 t.2.2.2.1 t.2.2.2.2.1 t.2.2.2.2.2.1
noncomputable def table_Check_l0E (K : Nat) : LoopE Tryz.prog := lpE Bs (table_Check_n K) [] [] (table_Check_k K) trivial 0 Tryz.func206 4 [] table_Check_l0h (OutI.or (OutI.exit 0 table_Check_l0x0) (OutI.ret table_Check_l0x1)) (fun n t => table_Check_l0u K n t) (fun _ => rfl) (fun n t => by kernel_rfl) K
noncomputable def table_Check_h : Sh := ⟨1, [(0, .sc (.slr0 0))], [], [(false, true, [r6, r6])]⟩
noncomputable def table_Check_r : Sh := ⟨1, [(0, .sc (i6))], [], []⟩
noncomputable def table_Check_g (K : Nat) (n0 : Nat) (m1 m2 : (Nat → Int)) : Option (Int × Unit) :=
  (bif (decide (((n0 : Nat) : Int) < 2)) then (some (100, ())) else (bif (decide (((n0 : Nat) : Int) > 256)) then (some (100, ())) else ((table_Check_l0 K K n0 n0 ((n0 : Nat) : Int) 0 m1 m2).bind fun q1 => (Sum.elim (fun q2 => (some (0, ()))) (fun q3 => (some (q3.1, ()))) q1))))
noncomputable def table_Check_o (K : Nat) : FO := fnFO table_Check_h table_Check_r fun t => table_Check_g K t.1 t.2.1 t.2.2.1
theorem table_Check_ok (K : Nat) : FOok Tryz.prog 206 (table_Check_o K) := fnE Bs (table_Check_n K) [] [table_Check_l0E K] (table_Check_k K) trivial 0 Tryz.func206 fun t => by kernel_rfl
/-! table_piece_at -/
noncomputable def table_piece_at_n (K : Nat) : List (FuncId × FO) := [(178, wide_MulNear_o K)]
theorem table_piece_at_k (K : Nat) : fnsOk Tryz.prog (table_piece_at_n K) := ⟨wide_MulNear_ok K, trivial⟩
noncomputable def table_piece_at_h : Sh := ⟨2, [(0, .ag [i6, i6, i6, i6]), (1, .sc (i6))], [], []⟩
noncomputable def table_piece_at_r : Sh := ⟨1, [(0, .sc (i6))], [], []⟩
noncomputable def table_piece_at_g (K : Nat) (a0 a1 a2 a3 a4 : Int) : Option (Int × Unit) :=
  ((wide_MulNear_g K (wi64 (a4 - a0)) (wi64 (a3 - a1)) (wi64 (a2 - a0))).bind fun q1 => (some ((wi64 (a1 + q1.1)), ())))
noncomputable def table_piece_at_gu (K : Nat) (t : table_piece_at_h.T) : Option (Int × Unit) :=
  table_piece_at_g K t.1 t.2.1 t.2.2.1 t.2.2.2.1 t.2.2.2.2.1
noncomputable def table_piece_at_o (K : Nat) : FO := fnFO table_piece_at_h table_piece_at_r fun t => table_piece_at_gu K t
theorem table_piece_at_ok (K : Nat) : FOok Tryz.prog 219 (table_piece_at_o K) := fnE Bs (table_piece_at_n K) [] [] (table_piece_at_k K) trivial 0 Tryz.func219 fun t => by kernel_rfl
/-! table_value -/
noncomputable def table_value_n (K : Nat) : List (FuncId × FO) := [(219, table_piece_at_o K)]
theorem table_value_k (K : Nat) : fnsOk Tryz.prog (table_value_n K) := ⟨table_piece_at_ok K, trivial⟩
noncomputable def table_value_i : List (FuncId × Func) := [(203, Tryz.f203), (218, Tryz.f218)]
theorem table_value_j : inlOk Tryz.prog table_value_i := ⟨⟨Tryz.func203, by kernel_rfl⟩, ⟨Tryz.func218, by kernel_rfl⟩, trivial⟩
noncomputable def table_value_l0h : Sh := ⟨26, [(1, .sc (.lit (.fn 218 0 [.p 0 0 0 [], .p 1 0 0 []]))), (5, .sc (i6)), (6, .sc (i6))], [(39, [(2, .sc (.lit (.p 0 0 0 []))), (3, .sc (.lit (.p 1 0 0 [])))]), (0, [])], [(true, false, [.slr0 2]), (true, false, [i6]), (false, true, [r6, r6])]⟩
noncomputable def table_value_l0x0 : Sh := ⟨26, [(5, .sc (i6))], [(39, [(2, .sc (.lit (.p 0 0 0 []))), (3, .sc (.lit (.p 1 0 0 [])))]), (0, [])], [(true, false, [.slr0 2]), (true, false, [i6]), (false, true, [r6, r6])]⟩
noncomputable def table_value_l0r (K : Nat) (rec : Int → Int → Nat → Int → (Nat → Int) → (Nat → Int) → Option (Int × Nat × Int × (Nat → Int) × (Nat → Int) × Unit)) (a0 a1 : Int) (n2 : Nat) (a3 : Int) (m4 m5 : (Nat → Int)) : Option (Int × Nat × Int × (Nat → Int) × (Nat → Int) × Unit) :=
  (bif (decide (a0 < a1)) then (bif ((decide (0 ≤ (wi64 ((shR .u64 (wu64 ((wi64 (a0 + a1)))) 1))))) && (decide ((wi64 ((shR .u64 (wu64 ((wi64 (a0 + a1)))) 1))) < ((n2 : Nat) : Int)))) then (bif (!(decide ((m4 (Int.toNat (wi64 ((shR .u64 (wu64 ((wi64 (a0 + a1)))) 1))))) > a3))) then (rec (wi64 ((wi64 ((shR .u64 (wu64 ((wi64 (a0 + a1)))) 1))) + 1)) a1 n2 a3 m4 m5) else (rec a0 (wi64 ((shR .u64 (wu64 ((wi64 (a0 + a1)))) 1))) n2 a3 m4 m5)) else none) else (some (a0, n2, a3, m4, m5, ())))
noncomputable def table_value_l0 (K n : Nat) := itN (fun _ _ _ _ _ _ => none) (table_value_l0r K) n
noncomputable def table_value_l0u (K n : Nat) (t : table_value_l0h.T) : Option (Int × Nat × Int × (Nat → Int) × (Nat → Int) × Unit) :=
  table_value_l0 K n t.1 t.2.1 t.2.2.1 t.2.2.2.1 t.2.2.2.2.1 t.2.2.2.2.2.1
noncomputable def table_value_l0E (K : Nat) : LoopE Tryz.prog := lpE Bs (table_value_n K) table_value_i [] (table_value_k K) table_value_j 9 Tryz.func203 2 [3, 1, 207] table_value_l0h (OutI.exit 0 table_value_l0x0) (fun n t => table_value_l0u K n t) (fun _ => rfl) (fun n t => by kernel_rfl) K
noncomputable def table_value_h : Sh := ⟨2, [(0, .sc (.slr0 0)), (1, .sc (i6))], [], [(false, true, [r6, r6])]⟩
noncomputable def table_value_r : Sh := ⟨1, [(0, .sc (i6))], [], []⟩
noncomputable def table_value_g (K : Nat) (n0 : Nat) (a1 : Int) (m2 m3 : (Nat → Int)) : Option (Int × Unit) :=
  ((table_value_l0 K K 0 ((n0 : Nat) : Int) n0 a1 m2 m3).bind fun q1 => (bif (q1.1 == 0) then (bif (decide (0 < ((q1.2.1 : Nat) : Int))) then (some ((q1.2.2.2.2.1 0), ())) else none) else (bif (q1.1 == ((q1.2.1 : Nat) : Int)) then (bif ((decide (0 ≤ (wi64 (q1.1 - 1)))) && (decide ((wi64 (q1.1 - 1)) < ((q1.2.1 : Nat) : Int)))) then (some ((q1.2.2.2.2.1 (Int.toNat (wi64 (q1.1 - 1)))), ())) else none) else (bif ((decide (0 ≤ (wi64 (q1.1 - 1)))) && (decide ((wi64 (q1.1 - 1)) < ((q1.2.1 : Nat) : Int)))) then (bif ((decide (0 ≤ q1.1)) && (decide (q1.1 < ((q1.2.1 : Nat) : Int)))) then ((table_piece_at_g K (q1.2.2.2.1 (Int.toNat (wi64 (q1.1 - 1)))) (q1.2.2.2.2.1 (Int.toNat (wi64 (q1.1 - 1)))) (q1.2.2.2.1 (Int.toNat q1.1)) (q1.2.2.2.2.1 (Int.toNat q1.1)) q1.2.2.1).bind fun q2 => (some (q2.1, ()))) else none) else none))))
noncomputable def table_value_gu (K : Nat) (t : table_value_h.T) : Option (Int × Unit) :=
  table_value_g K t.1 t.2.1 t.2.2.1 t.2.2.2.1
noncomputable def table_value_o (K : Nat) : FO := fnFO table_value_h table_value_r fun t => table_value_gu K t
theorem table_value_ok (K : Nat) : FOok Tryz.prog 207 (table_value_o K) := fnE Bs (table_value_n K) table_value_i [table_value_l0E K] (table_value_k K) table_value_j 9 Tryz.func207 fun t => by kernel_rfl
/-! table_At -/
noncomputable def table_At_n (K : Nat) : List (FuncId × FO) := [(206, table_Check_o K), (207, table_value_o K)]
theorem table_At_k (K : Nat) : fnsOk Tryz.prog (table_At_n K) := ⟨table_Check_ok K, table_value_ok K, trivial⟩
noncomputable def table_At_h : Sh := ⟨2, [(0, .sc (.slr0 0)), (1, .sc (i6))], [], [(false, true, [r6, r6])]⟩
noncomputable def table_At_r : Sh := ⟨2, [(0, .sc (i6)), (1, .sc (i6))], [], []⟩
noncomputable def table_At_g (K : Nat) (n0 : Nat) (a1 : Int) (m2 m3 : (Nat → Int)) : Option (Int × Int × Unit) :=
  ((table_Check_g K n0 m2 m3).bind fun q1 => (bif (q1.1 != 0) then (some (0, q1.1, ())) else ((table_value_g K n0 a1 m2 m3).bind fun q2 => (some (q2.1, 0, ())))))
noncomputable def table_At_gu (K : Nat) (t : table_At_h.T) : Option (Int × Int × Unit) :=
  table_At_g K t.1 t.2.1 t.2.2.1 t.2.2.2.1
noncomputable def table_At_o (K : Nat) : FO := fnFO table_At_h table_At_r fun t => table_At_gu K t
theorem table_At_ok (K : Nat) : FOok Tryz.prog 186 (table_At_o K) := fnE Bs (table_At_n K) [] [] (table_At_k K) trivial 0 Tryz.func186 fun t => by kernel_rfl
/-! grid_At -/
noncomputable def grid_At_n (K : Nat) : List (FuncId × FO) := [(185, grid_Column_o K), (186, table_At_o K)]
theorem grid_At_k (K : Nat) : fnsOk Tryz.prog (grid_At_n K) := ⟨grid_Column_ok K, table_At_ok K, trivial⟩
noncomputable def grid_At_h : Sh := ⟨3, [(0, .ag [.slr0 0, .slr0 1, .slr0 2]), (1, .sc (i6)), (2, .sc (i6))], [], [(false, true, [r6]), (false, true, [r6]), (false, true, [r6])]⟩
noncomputable def grid_At_r : Sh := ⟨2, [(0, .sc (i6)), (1, .sc (i6))], [], []⟩
noncomputable def grid_At_g (K : Nat) (n0 n1 n2 : Nat) (a3 a4 : Int) (m5 m6 m7 : (Nat → Int)) : Option (Int × Int × Unit) :=
  ((grid_Column_g K n0 n1 n2 a4 m5 m6 m7).bind fun q1 => (bif (q1.2.1 != 0) then (some (0, q1.2.1, ())) else ((table_At_g K q1.1 a3 q1.2.2.1 q1.2.2.2.1).bind fun q2 => (some (q2.1, q2.2.1, ())))))
noncomputable def grid_At_gu (K : Nat) (t : grid_At_h.T) : Option (Int × Int × Unit) :=
  let u1 := t.2
  let u2 := u1.2
  let u3 := u2.2
  let u4 := u3.2
  let u5 := u4.2
  let u6 := u5.2
  let u7 := u6.2
  grid_At_g K t.1 u1.1 u2.1 u3.1 u4.1 u5.1 u6.1 u7.1
noncomputable def grid_At_o (K : Nat) : FO := fnFO grid_At_h grid_At_r fun t => grid_At_gu K t
theorem grid_At_ok (K : Nat) : FOok Tryz.prog 156 (grid_At_o K) := fnE Bs (grid_At_n K) [] [] (grid_At_k K) trivial 0 Tryz.func156 fun t => by kernel_rfl
/-! fuse_Told -/
noncomputable def fuse_Told_n (K : Nat) : List (FuncId × FO) := [(156, grid_At_o K), (157, fx_Between_o K)]
theorem fuse_Told_k (K : Nat) : fnsOk Tryz.prog (fuse_Told_n K) := ⟨grid_At_ok K, fx_Between_ok K, trivial⟩
noncomputable def fuse_Told_h : Sh := ⟨3, [(0, .ag [.slr0 0, .slr0 1, .slr0 2]), (1, .sc (i6)), (2, .sc (i6))], [], [(false, true, [r6]), (false, true, [r6]), (false, true, [r6])]⟩
noncomputable def fuse_Told_r : Sh := ⟨2, [(0, .sc (i6)), (1, .sc (i6))], [], []⟩
noncomputable def fuse_Told_g (K : Nat) (n0 n1 n2 : Nat) (a3 a4 : Int) (m5 m6 m7 : (Nat → Int)) : Option (Int × Int × Unit) :=
  ((grid_At_g K n0 n1 n2 a3 a4 m5 m6 m7).bind fun q1 => (bif (q1.2.1 != 0) then (some (0, q1.2.1, ())) else ((fx_Between_g K 0 10000 q1.1).bind fun q2 => (some (q2.1, q1.2.1, ())))))
noncomputable def fuse_Told_gu (K : Nat) (t : fuse_Told_h.T) : Option (Int × Int × Unit) :=
  let u1 := t.2
  let u2 := u1.2
  let u3 := u2.2
  let u4 := u3.2
  let u5 := u4.2
  let u6 := u5.2
  let u7 := u6.2
  fuse_Told_g K t.1 u1.1 u2.1 u3.1 u4.1 u5.1 u6.1 u7.1
noncomputable def fuse_Told_o (K : Nat) : FO := fnFO fuse_Told_h fuse_Told_r fun t => fuse_Told_gu K t
theorem fuse_Told_ok (K : Nat) : FOok Tryz.prog 89 (fuse_Told_o K) := fnE Bs (fuse_Told_n K) [] [] (fuse_Told_k K) trivial 0 Tryz.func89 fun t => by kernel_rfl
/-! fuse_right -/
noncomputable def fuse_right_l0h : Sh := ⟨18, [(5, .sc (.slr0 0)), (6, .sc (i6)), (7, .sc (i6))], [(0, [])], [(false, true, [r6])]⟩
noncomputable def fuse_right_l0x0 : Sh := ⟨18, [], [(0, [])], []⟩
noncomputable def fuse_right_l0x1 : Sh := ⟨18, [(2, .sc (.b))], [(0, [])], []⟩
noncomputable def fuse_right_l0r (K : Nat) (rec : Nat → Int → Int → (Nat → Int) → Option ((Unit) ⊕ (Bool × Unit))) (n0 : Nat) (a1 a2 : Int) (m3 : (Nat → Int)) : Option ((Unit) ⊕ (Bool × Unit)) :=
  (bif (decide (a2 < a1)) then (bif ((decide (0 ≤ a2)) && (decide (a2 < ((n0 : Nat) : Int)))) then (bif (decide ((m3 (Int.toNat a2)) < 0)) then (some (.inr (false, ()))) else (bif (decide ((m3 (Int.toNat a2)) > 10000)) then (some (.inr (false, ()))) else (rec n0 a1 (wi64 (a2 + 1)) m3))) else none) else (some (.inl (()))))
noncomputable def fuse_right_l0 (K n : Nat) := itN (fun _ _ _ _ => none) (fuse_right_l0r K) n
noncomputable def fuse_right_l0u (K n : Nat) (t : fuse_right_l0h.T) : Option ((Unit) ⊕ (Bool × Unit)) :=
  fuse_right_l0 K n t.1 t.2.1 t.2.2.1 t.2.2.2.1
noncomputable def fuse_right_l0E (K : Nat) : LoopE Tryz.prog := lpE Bs [] [] [] trivial trivial 0 Tryz.func187 2 [] fuse_right_l0h (OutI.or (OutI.exit 0 fuse_right_l0x0) (OutI.ret fuse_right_l0x1)) (fun n t => fuse_right_l0u K n t) (fun _ => rfl) (fun n t => by kernel_rfl) K
noncomputable def fuse_right_h : Sh := ⟨1, [(0, .sc (.slr0 0))], [], [(false, true, [r6])]⟩
noncomputable def fuse_right_r : Sh := ⟨1, [(0, .sc (.b))], [], []⟩
noncomputable def fuse_right_g (K : Nat) (n0 : Nat) (m1 : (Nat → Int)) : Option (Bool × Unit) :=
  ((fuse_right_l0 K K n0 ((n0 : Nat) : Int) 0 m1).bind fun q1 => (Sum.elim (fun q2 => (some (true, ()))) (fun q3 => (some (q3.1, ()))) q1))
noncomputable def fuse_right_o (K : Nat) : FO := fnFO fuse_right_h fuse_right_r fun t => fuse_right_g K t.1 t.2.1
theorem fuse_right_ok (K : Nat) : FOok Tryz.prog 187 (fuse_right_o K) := fnE Bs [] [] [fuse_right_l0E K] trivial trivial 0 Tryz.func187 fun t => by kernel_rfl
/-! fx_Toward -/
noncomputable def fx_Toward_h : Sh := ⟨3, [(0, .sc (i6)), (1, .sc (i6)), (2, .sc (i6))], [], []⟩
noncomputable def fx_Toward_r : Sh := ⟨1, [(0, .sc (i6))], [], []⟩
noncomputable def fx_Toward_g (K : Nat) (a0 a1 a2 : Int) : Option (Int × Unit) :=
  (bif (decide (a2 < 1)) then (some (a0, ())) else (bif (decide (a0 ≤ a1)) then (bif (decide ((wu64 ((wi64 (a1 - a0)))) ≤ (wu64 (a2)))) then (bif (decide ((wu64 ((wi64 (a1 - a0)))) ≤ (wu64 (a2)))) then (some (a1, ())) else (bif (decide (a0 < a1)) then (some ((wi64 (a0 + a2)), ())) else (some ((wi64 (a0 - a2)), ())))) else (bif (decide (a0 > a1)) then (bif (decide ((wu64 ((wi64 (a0 - a1)))) ≤ (wu64 (a2)))) then (some (a1, ())) else (bif (decide (a0 < a1)) then (some ((wi64 (a0 + a2)), ())) else (some ((wi64 (a0 - a2)), ())))) else (bif (decide (a0 < a1)) then (some ((wi64 (a0 + a2)), ())) else (some ((wi64 (a0 - a2)), ()))))) else (bif (decide (a0 > a1)) then (bif (decide ((wu64 ((wi64 (a0 - a1)))) ≤ (wu64 (a2)))) then (some (a1, ())) else (bif (decide (a0 < a1)) then (some ((wi64 (a0 + a2)), ())) else (some ((wi64 (a0 - a2)), ())))) else (bif (decide (a0 < a1)) then (some ((wi64 (a0 + a2)), ())) else (some ((wi64 (a0 - a2)), ()))))))
noncomputable def fx_Toward_o (K : Nat) : FO := fnFO fx_Toward_h fx_Toward_r fun t => fx_Toward_g K t.1 t.2.1 t.2.2.1
theorem fx_Toward_ok (K : Nat) : FOok Tryz.prog 188 (fx_Toward_o K) := fnE Bs [] [] [] trivial trivial 0 Tryz.func188 fun t => by kernel_rfl
/-! fuse_Correct -/
noncomputable def fuse_Correct_n (K : Nat) : List (FuncId × FO) := [(187, fuse_right_o K), (188, fx_Toward_o K)]
theorem fuse_Correct_k (K : Nat) : fnsOk Tryz.prog (fuse_Correct_n K) := ⟨fuse_right_ok K, fx_Toward_ok K, trivial⟩
noncomputable def fuse_Correct_h : Sh := ⟨3, [(0, .sc (i6)), (1, .sc (i6)), (2, .sc (i6))], [], []⟩
noncomputable def fuse_Correct_r : Sh := ⟨2, [(0, .sc (i6)), (1, .sc (i6))], [], []⟩
noncomputable def fuse_Correct_g (K : Nat) (a0 a1 a2 : Int) : Option (Int × Int × Unit) :=
  ((fuse_right_g K 3 (fun j => (selI [a0, a1, a2] j))).bind fun q1 => (bif (!q1.1) then (some (0, 2, ())) else (bif (a2 == 0) then (some (0, 2, ())) else ((fx_Toward_g K a0 a1 a2).bind fun q2 => (some (q2.1, 0, ()))))))
noncomputable def fuse_Correct_o (K : Nat) : FO := fnFO fuse_Correct_h fuse_Correct_r fun t => fuse_Correct_g K t.1 t.2.1 t.2.2.1
theorem fuse_Correct_ok (K : Nat) : FOok Tryz.prog 158 (fuse_Correct_o K) := fnE Bs (fuse_Correct_n K) [] [] (fuse_Correct_k K) trivial 0 Tryz.func158 fun t => by kernel_rfl
/-! fuse_Rest -/
noncomputable def fuse_Rest_n (K : Nat) : List (FuncId × FO) := [(86, fuse_Go_o K), (158, fuse_Correct_o K)]
theorem fuse_Rest_k (K : Nat) : fnsOk Tryz.prog (fuse_Rest_n K) := ⟨fuse_Go_ok K, fuse_Correct_ok K, trivial⟩
noncomputable def fuse_Rest_h : Sh := ⟨3, [(0, .ag [i6, i6, i6, i6, i6, i6, i6, i6, i6, i6, i6, i6, i6, i6, i6, i6, i6, i6, i6, i6, i6, i6, i6]), (1, .sc (i6)), (2, .sc (i6))], [], []⟩
noncomputable def fuse_Rest_r : Sh := ⟨2, [(0, .ag [i6, i6, i6, i6, i6, i6, i6, i6, i6, i6, i6, i6, i6, i6, i6, i6, i6, i6, i6, i6, i6, i6, i6]), (1, .sc (i6))], [], []⟩
noncomputable def fuse_Rest_g (K : Nat) (a0 a1 a2 a3 a4 a5 a6 a7 a8 a9 a10 a11 a12 a13 a14 a15 a16 a17 a18 a19 a20 a21 a22 a23 a24 : Int) : Option (Int × Int × Int × Int × Int × Int × Int × Int × Int × Int × Int × Int × Int × Int × Int × Int × Int × Int × Int × Int × Int × Int × Int × Int × Unit) :=
  ((fuse_Go_g K a0 a1 a2 a3 a4 a5 a6 a7 a8 a9 a10 a11 a12 a13 a14 a15 a16 a17 a18 a19 a20 a21 a22).bind fun q1 => let q1_1 := q1.2; let q1_2 := q1_1.2; let q1_3 := q1_2.2; let q1_4 := q1_3.2; let q1_5 := q1_4.2; let q1_6 := q1_5.2; let q1_7 := q1_6.2; let q1_8 := q1_7.2; let q1_9 := q1_8.2; let q1_10 := q1_9.2; let q1_11 := q1_10.2; let q1_12 := q1_11.2; let q1_13 := q1_12.2; let q1_14 := q1_13.2; let q1_15 := q1_14.2; let q1_16 := q1_15.2; let q1_17 := q1_16.2; let q1_18 := q1_17.2; let q1_19 := q1_18.2; let q1_20 := q1_19.2; let q1_21 := q1_20.2; let q1_22 := q1_21.2; let q1_23 := q1_22.2; (bif (q1_23.1 == 0) then ((fuse_Correct_g K q1_2.1 a23 a24).bind fun q2 => (bif (q2.2.1 != 0) then (some (0, 0, 0, 0, 0, 0, 0, 0, 0, 0, 0, 0, 0, 0, 0, 0, 0, 0, 0, 0, 0, 0, 0, q2.2.1, ())) else (some (q1.1, q1_1.1, q2.1, q2.1, q1.1, q1_5.1, q1_6.1, q1_7.1, q1_8.1, q1_9.1, q1_10.1, q1_11.1, q1_12.1, q1_13.1, q1_14.1, q1_15.1, q1_16.1, q1_17.1, q1_18.1, q1_19.1, q1_20.1, q1_21.1, q1_22.1, q2.2.1, ())))) else (bif (q1_23.1 != 0) then (some (0, 0, 0, 0, 0, 0, 0, 0, 0, 0, 0, 0, 0, 0, 0, 0, 0, 0, 0, 0, 0, 0, 0, q1_23.1, ())) else (some (q1.1, q1_1.1, 0, 0, q1.1, q1_5.1, q1_6.1, q1_7.1, q1_8.1, q1_9.1, q1_10.1, q1_11.1, q1_12.1, q1_13.1, q1_14.1, q1_15.1, q1_16.1, q1_17.1, q1_18.1, q1_19.1, q1_20.1, q1_21.1, q1_22.1, q1_23.1, ())))))
noncomputable def fuse_Rest_gu (K : Nat) (t : fuse_Rest_h.T) : Option (Int × Int × Int × Int × Int × Int × Int × Int × Int × Int × Int × Int × Int × Int × Int × Int × Int × Int × Int × Int × Int × Int × Int × Int × Unit) :=
  let u1 := t.2
  let u2 := u1.2
  let u3 := u2.2
  let u4 := u3.2
  let u5 := u4.2
  let u6 := u5.2
  let u7 := u6.2
  let u8 := u7.2
  let u9 := u8.2
  let u10 := u9.2
  let u11 := u10.2
  let u12 := u11.2
  let u13 := u12.2
  let u14 := u13.2
  let u15 := u14.2
  let u16 := u15.2
  let u17 := u16.2
  let u18 := u17.2
  let u19 := u18.2
  let u20 := u19.2
  let u21 := u20.2
  let u22 := u21.2
  let u23 := u22.2
  let u24 := u23.2
  fuse_Rest_g K t.1 u1.1 u2.1 u3.1 u4.1 u5.1 u6.1 u7.1 u8.1 u9.1 u10.1 u11.1 u12.1 u13.1 u14.1 u15.1 u16.1 u17.1 u18.1 u19.1 u20.1 u21.1 u22.1 u23.1 u24.1
noncomputable def fuse_Rest_o (K : Nat) : FO := fnFO fuse_Rest_h fuse_Rest_r fun t => fuse_Rest_gu K t
theorem fuse_Rest_ok (K : Nat) : FOok Tryz.prog 90 (fuse_Rest_o K) := fnE Bs (fuse_Rest_n K) [] [] (fuse_Rest_k K) trivial 0 Tryz.func90 fun t => by kernel_rfl
/-! health_soc -/
noncomputable def health_soc_n (K : Nat) : List (FuncId × FO) := [(120, health_within_o K)]
theorem health_soc_k (K : Nat) : fnsOk Tryz.prog (health_soc_n K) := ⟨health_within_ok K, trivial⟩
noncomputable def health_soc_h : Sh := ⟨1, [(0, .sc (i6))], [], []⟩
noncomputable def health_soc_r : Sh := ⟨1, [(0, .sc (.b))], [], []⟩
noncomputable def health_soc_g (K : Nat) (a0 : Int) : Option (Bool × Unit) :=
  ((health_within_g K 0 10000 a0).bind fun q1 => (some (q1.1, ())))
noncomputable def health_soc_o (K : Nat) : FO := fnFO health_soc_h health_soc_r fun t => health_soc_g K t.1
theorem health_soc_ok (K : Nat) : FOok Tryz.prog 189 (health_soc_o K) := fnE Bs (health_soc_n K) [] [] (health_soc_k K) trivial 0 Tryz.func189 fun t => by kernel_rfl
/-! health_charge -/
noncomputable def health_charge_n (K : Nat) : List (FuncId × FO) := [(120, health_within_o K)]
theorem health_charge_k (K : Nat) : fnsOk Tryz.prog (health_charge_n K) := ⟨health_within_ok K, trivial⟩
noncomputable def health_charge_h : Sh := ⟨1, [(0, .sc (i6))], [], []⟩
noncomputable def health_charge_r : Sh := ⟨1, [(0, .sc (.b))], [], []⟩
noncomputable def health_charge_g (K : Nat) (a0 : Int) : Option (Bool × Unit) :=
  ((health_within_g K (-1125899906842624) 1125899906842624 a0).bind fun q1 => (some (q1.1, ())))
noncomputable def health_charge_o (K : Nat) : FO := fnFO health_charge_h health_charge_r fun t => health_charge_g K t.1
theorem health_charge_ok (K : Nat) : FOok Tryz.prog 190 (health_charge_o K) := fnE Bs (health_charge_n K) [] [] (health_charge_k K) trivial 0 Tryz.func190 fun t => by kernel_rfl
/-! health_anchored_right -/
noncomputable def health_anchored_right_n (K : Nat) : List (FuncId × FO) := [(51, health_Check_o K), (120, health_within_o K), (189, health_soc_o K), (190, health_charge_o K)]
theorem health_anchored_right_k (K : Nat) : fnsOk Tryz.prog (health_anchored_right_n K) := ⟨health_Check_ok K, health_within_ok K, health_soc_ok K, health_charge_ok K, trivial⟩
noncomputable def health_anchored_right_h : Sh := ⟨1, [(0, .ag [i6, i6, i6, i6, i6, i6, i6, i6, i6, i6, i6, i6, i6, i6, i6, i6, i6, i6, i6, i6, i6, i6, i6, i6, i6, i6, i6, i6, i6, i6, i6, i6, i6, i6, i6, i6, i6, i6, i6, i6, i6, i6, i6, i6, i6, i6, .slr0 0, .slr0 1, .slr0 2, i6, i6, i6, i6, i6, i6, .b, i6, i6, i6, .b, i6, i6, i6, .b, i6, i6, i6, .b, i6, i6, i6, .b, i6, i6, i6, .b, i6, i6, i6, i6])], [], [(false, true, [r6]), (false, true, [r6]), (false, true, [r6])]⟩
noncomputable def health_anchored_right_r : Sh := ⟨1, [(0, .sc (.b))], [], []⟩
noncomputable def health_anchored_right_g (K : Nat) (a0 a1 a2 a3 a4 a5 a6 a7 a8 a9 a10 a11 a12 a13 a14 a15 a16 a17 a18 a19 a20 a21 a22 a23 a24 a25 a26 a27 a28 a29 a30 a31 a32 a33 a34 a35 a36 a37 a38 a39 a40 a41 a42 a43 a44 a45 : Int) (n46 n47 n48 : Nat) (a49 a50 a51 a52 a53 a54 : Int) (b55 : Bool) (a56 a57 a58 : Int) (b59 : Bool) (a60 a61 a62 : Int) (b63 : Bool) (a64 a65 a66 : Int) (b67 : Bool) (a68 a69 a70 : Int) (b71 : Bool) (a72 a73 a74 : Int) (b75 : Bool) (a76 a77 a78 a79 : Int) (m80 m81 m82 : (Nat → Int)) : Option (Bool × Unit) :=
  (bif (a9 == (-1)) then ((health_Check_g K a23 a24 a25 a26 a27 a28 a29 a30 a31 a32 a33 a34 a35 a36 a37 a38 a39 a40 a41 a42 a43 a44 a45 n46 n47 n48 a49 a50 a51 a52 a53 a54 b55 a56 a57 a58 b59 a60 a61 a62 b63 a64 a65 a66 b67 a68 a69 a70 b71 a72 a73 a74 b75 a76 a77 a78 a79 m80 m81 m82).bind fun q1 => (bif (q1.1 == 0) then ((health_within_g K a51 a52 a8).bind fun q2 => (bif q2.1 then ((health_soc_g K a2).bind fun q3 => (bif q3.1 then ((health_charge_g K a0).bind fun q4 => (bif q4.1 then ((health_charge_g K a10).bind fun q5 => (some (q5.1, ()))) else (some (false, ())))) else (some (false, ())))) else (some (false, ())))) else (some (false, ())))) else ((health_soc_g K a9).bind fun q6 => ((health_Check_g K a23 a24 a25 a26 a27 a28 a29 a30 a31 a32 a33 a34 a35 a36 a37 a38 a39 a40 a41 a42 a43 a44 a45 n46 n47 n48 a49 a50 a51 a52 a53 a54 b55 a56 a57 a58 b59 a60 a61 a62 b63 a64 a65 a66 b67 a68 a69 a70 b71 a72 a73 a74 b75 a76 a77 a78 a79 m80 m81 m82).bind fun q7 => (bif (q7.1 == 0) then ((health_within_g K a51 a52 a8).bind fun q8 => (bif q8.1 then (bif q6.1 then ((health_soc_g K a2).bind fun q9 => (bif q9.1 then ((health_charge_g K a0).bind fun q10 => (bif q10.1 then ((health_charge_g K a10).bind fun q11 => (some (q11.1, ()))) else (some (false, ())))) else (some (false, ())))) else (some (false, ()))) else (some (false, ())))) else (some (false, ()))))))
noncomputable def health_anchored_right_gu (K : Nat) (t : health_anchored_right_h.T) : Option (Bool × Unit) :=
  let u1 := t.2
  let u2 := u1.2
  let u3 := u2.2
  let u4 := u3.2
  let u5 := u4.2
  let u6 := u5.2
  let u7 := u6.2
  let u8 := u7.2
  let u9 := u8.2
  let u10 := u9.2
  let u11 := u10.2
  let u12 := u11.2
  let u13 := u12.2
  let u14 := u13.2
  let u15 := u14.2
  let u16 := u15.2
  let u17 := u16.2
  let u18 := u17.2
  let u19 := u18.2
  let u20 := u19.2
  let u21 := u20.2
  let u22 := u21.2
  let u23 := u22.2
  let u24 := u23.2
  let u25 := u24.2
  let u26 := u25.2
  let u27 := u26.2
  let u28 := u27.2
  let u29 := u28.2
  let u30 := u29.2
  let u31 := u30.2
  let u32 := u31.2
  let u33 := u32.2
  let u34 := u33.2
  let u35 := u34.2
  let u36 := u35.2
  let u37 := u36.2
  let u38 := u37.2
  let u39 := u38.2
  let u40 := u39.2
  let u41 := u40.2
  let u42 := u41.2
  let u43 := u42.2
  let u44 := u43.2
  let u45 := u44.2
  let u46 := u45.2
  let u47 := u46.2
  let u48 := u47.2
  let u49 := u48.2
  let u50 := u49.2
  let u51 := u50.2
  let u52 := u51.2
  let u53 := u52.2
  let u54 := u53.2
  let u55 := u54.2
  let u56 := u55.2
  let u57 := u56.2
  let u58 := u57.2
  let u59 := u58.2
  let u60 := u59.2
  let u61 := u60.2
  let u62 := u61.2
  let u63 := u62.2
  let u64 := u63.2
  let u65 := u64.2
  let u66 := u65.2
  let u67 := u66.2
  let u68 := u67.2
  let u69 := u68.2
  let u70 := u69.2
  let u71 := u70.2
  let u72 := u71.2
  let u73 := u72.2
  let u74 := u73.2
  let u75 := u74.2
  let u76 := u75.2
  let u77 := u76.2
  let u78 := u77.2
  let u79 := u78.2
  let u80 := u79.2
  let u81 := u80.2
  let u82 := u81.2
  health_anchored_right_g K t.1 u1.1 u2.1 u3.1 u4.1 u5.1 u6.1 u7.1 u8.1 u9.1 u10.1 u11.1 u12.1 u13.1 u14.1 u15.1 u16.1 u17.1 u18.1 u19.1 u20.1 u21.1 u22.1 u23.1 u24.1 u25.1 u26.1 u27.1 u28.1 u29.1 u30.1 u31.1 u32.1 u33.1 u34.1 u35.1 u36.1 u37.1 u38.1 u39.1 u40.1 u41.1 u42.1 u43.1 u44.1 u45.1 u46.1 u47.1 u48.1 u49.1 u50.1 u51.1 u52.1 u53.1 u54.1 u55.1 u56.1 u57.1 u58.1 u59.1 u60.1 u61.1 u62.1 u63.1 u64.1 u65.1 u66.1 u67.1 u68.1 u69.1 u70.1 u71.1 u72.1 u73.1 u74.1 u75.1 u76.1 u77.1 u78.1 u79.1 u80.1 u81.1 u82.1
noncomputable def health_anchored_right_o (K : Nat) : FO := fnFO health_anchored_right_h health_anchored_right_r fun t => health_anchored_right_gu K t
theorem health_anchored_right_ok (K : Nat) : FOok Tryz.prog 159 (health_anchored_right_o K) := fnE Bs (health_anchored_right_n K) [] [] (health_anchored_right_k K) trivial 0 Tryz.func159 fun t => by kernel_rfl
/-! health_Learned -/
noncomputable def health_Learned_n (K : Nat) : List (FuncId × FO) := [(189, health_soc_o K), (190, health_charge_o K), (178, wide_MulNear_o K), (120, health_within_o K)]
theorem health_Learned_k (K : Nat) : fnsOk Tryz.prog (health_Learned_n K) := ⟨health_soc_ok K, health_charge_ok K, wide_MulNear_ok K, health_within_ok K, trivial⟩
noncomputable def health_Learned_h : Sh := ⟨4, [(0, .sc (i6)), (1, .sc (i6)), (2, .sc (i6)), (3, .sc (i6))], [], []⟩
noncomputable def health_Learned_r : Sh := ⟨2, [(0, .sc (i6)), (1, .sc (.b))], [], []⟩
noncomputable def health_Learned_g (K : Nat) (a0 a1 a2 a3 : Int) : Option (Int × Bool × Unit) :=
  ((health_soc_g K a0).bind fun q1 => (bif (!q1.1) then (some (0, false, ())) else ((health_soc_g K a2).bind fun q2 => (bif (!q2.1) then (some (0, false, ())) else ((health_charge_g K a1).bind fun q3 => (bif (!q3.1) then (some (0, false, ())) else ((health_charge_g K a3).bind fun q4 => (bif (!q4.1) then (some (0, false, ())) else (bif (decide ((wi64 (a2 - a0)) < 0)) then ((wide_MulNear_g K 10000 (wi64 (0 - (wi64 (a3 - a1)))) (wi64 (0 - (wi64 (a2 - a0))))).bind fun q5 => (bif (q5.2.1 != 0) then (some (0, false, ())) else ((health_within_g K 1 1125899906842624 q5.1).bind fun q6 => (bif (!q6.1) then (some (0, false, ())) else (some (q5.1, true, ())))))) else ((wide_MulNear_g K 10000 (wi64 (a3 - a1)) (wi64 (a2 - a0))).bind fun q7 => (bif (q7.2.1 != 0) then (some (0, false, ())) else ((health_within_g K 1 1125899906842624 q7.1).bind fun q8 => (bif (!q8.1) then (some (0, false, ())) else (some (q7.1, true, ())))))))))))))))
noncomputable def health_Learned_gu (K : Nat) (t : health_Learned_h.T) : Option (Int × Bool × Unit) :=
  health_Learned_g K t.1 t.2.1 t.2.2.1 t.2.2.2.1
noncomputable def health_Learned_o (K : Nat) : FO := fnFO health_Learned_h health_Learned_r fun t => health_Learned_gu K t
theorem health_Learned_ok (K : Nat) : FOok Tryz.prog 191 (health_Learned_o K) := fnE Bs (health_Learned_n K) [] [] (health_Learned_k K) trivial 0 Tryz.func191 fun t => by kernel_rfl
/-! fx_Near -/
noncomputable def fx_Near_i : List (FuncId × Func) := [(200, Tryz.f200), (208, Tryz.f208)]
theorem fx_Near_j : inlOk Tryz.prog fx_Near_i := ⟨⟨Tryz.func200, by kernel_rfl⟩, ⟨Tryz.func208, by kernel_rfl⟩, trivial⟩
noncomputable def fx_Near_h : Sh := ⟨2, [(0, .sc (i6)), (1, .sc (i6))], [], []⟩
noncomputable def fx_Near_r : Sh := ⟨2, [(0, .sc (i6)), (1, .sc (i6))], [], []⟩
noncomputable def fx_Near_g (K : Nat) (a0 a1 : Int) : Option (Int × Int × Unit) :=
  (bif (decide (a1 < 1)) then (some (0, 2, ())) else (bif (a1 == 0) then none else (bif (a1 == 0) then none else (bif (decide ((Int.tmod a0 a1) < 0)) then (bif (decide ((wi64 ((Int.tmod a0 a1) + a1)) > (wi64 (a1 - (wi64 ((Int.tmod a0 a1) + a1)))))) then (some ((wi64 ((wi64 ((wi64 (Int.tdiv a0 a1)) - 1)) + 1)), 0, ())) else (bif ((wi64 ((Int.tmod a0 a1) + a1)) == (wi64 (a1 - (wi64 ((Int.tmod a0 a1) + a1))))) then (bif (decide (a0 > 0)) then (some ((wi64 ((wi64 ((wi64 (Int.tdiv a0 a1)) - 1)) + 1)), 0, ())) else (some ((wi64 ((wi64 (Int.tdiv a0 a1)) - 1)), 0, ()))) else (some ((wi64 ((wi64 (Int.tdiv a0 a1)) - 1)), 0, ())))) else (bif (decide ((Int.tmod a0 a1) > (wi64 (a1 - (Int.tmod a0 a1))))) then (some ((wi64 ((wi64 (Int.tdiv a0 a1)) + 1)), 0, ())) else (bif ((Int.tmod a0 a1) == (wi64 (a1 - (Int.tmod a0 a1)))) then (bif (decide (a0 > 0)) then (some ((wi64 ((wi64 (Int.tdiv a0 a1)) + 1)), 0, ())) else (some ((wi64 (Int.tdiv a0 a1)), 0, ()))) else (some ((wi64 (Int.tdiv a0 a1)), 0, ()))))))))
noncomputable def fx_Near_o (K : Nat) : FO := fnFO fx_Near_h fx_Near_r fun t => fx_Near_g K t.1 t.2.1
theorem fx_Near_ok (K : Nat) : FOok Tryz.prog 192 (fx_Near_o K) := fnE Bs [] fx_Near_i [] trivial fx_Near_j 9 Tryz.func192 fun t => by kernel_rfl
/-! health_Anchor -/
noncomputable def health_Anchor_n (K : Nat) : List (FuncId × FO) := [(159, health_anchored_right_o K), (140, fx_Size_o K), (191, health_Learned_o K), (192, fx_Near_o K), (157, fx_Between_o K)]
theorem health_Anchor_k (K : Nat) : fnsOk Tryz.prog (health_Anchor_n K) := ⟨health_anchored_right_ok K, fx_Size_ok K, health_Learned_ok K, fx_Near_ok K, fx_Between_ok K, trivial⟩
noncomputable def health_Anchor_i : List (FuncId × Func) := [(160, Tryz.f160)]
theorem health_Anchor_j : inlOk Tryz.prog health_Anchor_i := ⟨⟨Tryz.func160, by kernel_rfl⟩, trivial⟩
noncomputable def health_Anchor_h : Sh := ⟨2, [(0, .ag [i6, i6, i6, i6, i6, i6, i6, i6, i6, i6, i6, i6, i6, i6, i6, i6, i6, i6, i6, i6, i6, i6, i6, .slr0 0, .slr0 1, .slr0 2, i6, i6, i6, i6, i6, i6, .b, i6, i6, i6, .b, i6, i6, i6, .b, i6, i6, i6, .b, i6, i6, i6, .b, i6, i6, i6, .b, i6, i6, i6, i6]), (1, .ag [i6, i6, i6, i6, i6, i6, i6, i6, i6, i6, i6, i6, i6, i6, i6, i6, i6, i6, i6, i6, i6, i6, i6])], [], [(false, true, [r6]), (false, true, [r6]), (false, true, [r6])]⟩
noncomputable def health_Anchor_r : Sh := ⟨2, [(0, .ag [i6, i6, i6, i6, i6, i6, i6, i6, i6, i6, i6, i6, i6, i6, i6, i6, i6, i6, i6, i6, i6, i6, i6]), (1, .sc (i6))], [], []⟩
noncomputable def health_Anchor_g (K : Nat) (a0 a1 a2 a3 a4 a5 a6 a7 a8 a9 a10 a11 a12 a13 a14 a15 a16 a17 a18 a19 a20 a21 a22 : Int) (n23 n24 n25 : Nat) (a26 a27 a28 a29 a30 a31 : Int) (b32 : Bool) (a33 a34 a35 : Int) (b36 : Bool) (a37 a38 a39 : Int) (b40 : Bool) (a41 a42 a43 : Int) (b44 : Bool) (a45 a46 a47 : Int) (b48 : Bool) (a49 a50 a51 : Int) (b52 : Bool) (a53 a54 a55 a56 a57 a58 a59 a60 a61 a62 a63 a64 a65 a66 a67 a68 a69 a70 a71 a72 a73 a74 a75 a76 a77 a78 a79 : Int) (m80 m81 m82 : (Nat → Int)) : Option (Int × Int × Int × Int × Int × Int × Int × Int × Int × Int × Int × Int × Int × Int × Int × Int × Int × Int × Int × Int × Int × Int × Int × Int × Unit) :=
  ((health_anchored_right_g K a57 a58 a59 a60 a61 a62 a63 a64 a65 a66 a67 a68 a69 a70 a71 a72 a73 a74 a75 a76 a77 a78 a79 a0 a1 a2 a3 a4 a5 a6 a7 a8 a9 a10 a11 a12 a13 a14 a15 a16 a17 a18 a19 a20 a21 a22 n23 n24 n25 a26 a27 a28 a29 a30 a31 b32 a33 a34 a35 b36 a37 a38 a39 b40 a41 a42 a43 b44 a45 a46 a47 b48 a49 a50 a51 b52 a53 a54 a55 a56 m80 m81 m82).bind fun q1 => (bif (!q1.1) then (some (0, 0, 0, 0, 0, 0, 0, 0, 0, 0, 0, 0, 0, 0, 0, 0, 0, 0, 0, 0, 0, 0, 0, 2, ())) else (bif (decide (a66 ≥ 0)) then ((fx_Size_g K (wi64 (a59 - a66))).bind fun q2 => (bif (decide (q2.1 < a30)) then (some (a57, a58, a59, a60, a61, a62, a63, a64, a65, a66, a67, a68, a69, a70, a71, a72, a73, a74, a75, a76, a77, a78, a79, 0, ())) else ((health_Learned_g K a66 a67 a59 a57).bind fun q3 => (bif (!q3.2.1) then (some (a57, a58, a59, a60, a61, a62, a63, a64, a65, a59, a57, a68, a69, a70, a71, a72, a73, a74, a75, a76, a77, a78, a79, 0, ())) else ((fx_Near_g K (wi64 (q3.1 - a65)) 8).bind fun q4 => ((fx_Between_g K a28 a29 (wi64 (a65 + q4.1))).bind fun q5 => (some (a57, a58, a59, a60, a61, a62, a63, a64, q5.1, a59, a57, a68, a69, a70, a71, a72, a73, a74, a75, a76, a77, a78, a79, 0, ())))))))) else (some (a57, a58, a59, a60, a61, a62, a63, a64, a65, a59, a57, a68, a69, a70, a71, a72, a73, a74, a75, a76, a77, a78, a79, 0, ())))))
noncomputable def health_Anchor_gu (K : Nat) (t : health_Anchor_h.T) : Option (Int × Int × Int × Int × Int × Int × Int × Int × Int × Int × Int × Int × Int × Int × Int × Int × Int × Int × Int × Int × Int × Int × Int × Int × Unit) :=
  let u1 := t.2
  let u2 := u1.2
  let u3 := u2.2
  let u4 := u3.2
  let u5 := u4.2
  let u6 := u5.2
  let u7 := u6.2
  let u8 := u7.2
  let u9 := u8.2
  let u10 := u9.2
  let u11 := u10.2
  let u12 := u11.2
  let u13 := u12.2
  let u14 := u13.2
  let u15 := u14.2
  let u16 := u15.2
  let u17 := u16.2
  let u18 := u17.2
  let u19 := u18.2
  let u20 := u19.2
  let u21 := u20.2
  let u22 := u21.2
  let u23 := u22.2
  let u24 := u23.2
  let u25 := u24.2
  let u26 := u25.2
  let u27 := u26.2
  let u28 := u27.2
  let u29 := u28.2
  let u30 := u29.2
  let u31 := u30.2
  let u32 := u31.2
  let u33 := u32.2
  let u34 := u33.2
  let u35 := u34.2
  let u36 := u35.2
  let u37 := u36.2
  let u38 := u37.2
  let u39 := u38.2
  let u40 := u39.2
  let u41 := u40.2
  let u42 := u41.2
  let u43 := u42.2
  let u44 := u43.2
  let u45 := u44.2
  let u46 := u45.2
  let u47 := u46.2
  let u48 := u47.2
  let u49 := u48.2
  let u50 := u49.2
  let u51 := u50.2
  let u52 := u51.2
  let u53 := u52.2
  let u54 := u53.2
  let u55 := u54.2
  let u56 := u55.2
  let u57 := u56.2
  let u58 := u57.2
  let u59 := u58.2
  let u60 := u59.2
  let u61 := u60.2
  let u62 := u61.2
  let u63 := u62.2
  let u64 := u63.2
  let u65 := u64.2
  let u66 := u65.2
  let u67 := u66.2
  let u68 := u67.2
  let u69 := u68.2
  let u70 := u69.2
  let u71 := u70.2
  let u72 := u71.2
  let u73 := u72.2
  let u74 := u73.2
  let u75 := u74.2
  let u76 := u75.2
  let u77 := u76.2
  let u78 := u77.2
  let u79 := u78.2
  let u80 := u79.2
  let u81 := u80.2
  let u82 := u81.2
  health_Anchor_g K t.1 u1.1 u2.1 u3.1 u4.1 u5.1 u6.1 u7.1 u8.1 u9.1 u10.1 u11.1 u12.1 u13.1 u14.1 u15.1 u16.1 u17.1 u18.1 u19.1 u20.1 u21.1 u22.1 u23.1 u24.1 u25.1 u26.1 u27.1 u28.1 u29.1 u30.1 u31.1 u32.1 u33.1 u34.1 u35.1 u36.1 u37.1 u38.1 u39.1 u40.1 u41.1 u42.1 u43.1 u44.1 u45.1 u46.1 u47.1 u48.1 u49.1 u50.1 u51.1 u52.1 u53.1 u54.1 u55.1 u56.1 u57.1 u58.1 u59.1 u60.1 u61.1 u62.1 u63.1 u64.1 u65.1 u66.1 u67.1 u68.1 u69.1 u70.1 u71.1 u72.1 u73.1 u74.1 u75.1 u76.1 u77.1 u78.1 u79.1 u80.1 u81.1 u82.1
noncomputable def health_Anchor_o (K : Nat) : FO := fnFO health_Anchor_h health_Anchor_r fun t => health_Anchor_gu K t
theorem health_Anchor_ok (K : Nat) : FOok Tryz.prog 91 (health_Anchor_o K) := fnE Bs (health_Anchor_n K) health_Anchor_i [] (health_Anchor_k K) health_Anchor_j 9 Tryz.func91 fun t => by kernel_rfl
/-! guard_Back -/
noncomputable def guard_Back_h : Sh := ⟨2, [(0, .ag [i6, .b, i6, i6]), (1, .sc (i6))], [], []⟩
noncomputable def guard_Back_r : Sh := ⟨1, [(0, .sc (.b))], [], []⟩
noncomputable def guard_Back_g (K : Nat) (a0 : Int) (b1 : Bool) (a2 a3 a4 : Int) : Option (Bool × Unit) :=
  (bif b1 then (some ((decide (a4 ≤ (wi64 (a2 - a3)))), ())) else (some ((decide (a4 ≥ (wi64 (a2 + a3)))), ())))
noncomputable def guard_Back_gu (K : Nat) (t : guard_Back_h.T) : Option (Bool × Unit) :=
  guard_Back_g K t.1 t.2.1 t.2.2.1 t.2.2.2.1 t.2.2.2.2.1
noncomputable def guard_Back_o (K : Nat) : FO := fnFO guard_Back_h guard_Back_r fun t => guard_Back_gu K t
theorem guard_Back_ok (K : Nat) : FOok Tryz.prog 209 (guard_Back_o K) := fnE Bs [] [] [] trivial trivial 0 Tryz.func209 fun t => by kernel_rfl
/-! guard_Beyond -/
noncomputable def guard_Beyond_h : Sh := ⟨2, [(0, .ag [i6, .b, i6, i6]), (1, .sc (i6))], [], []⟩
noncomputable def guard_Beyond_r : Sh := ⟨1, [(0, .sc (.b))], [], []⟩
noncomputable def guard_Beyond_g (K : Nat) (a0 : Int) (b1 : Bool) (a2 a3 a4 : Int) : Option (Bool × Unit) :=
  (bif b1 then (some ((decide (a4 > a2)), ())) else (some ((decide (a4 < a2)), ())))
noncomputable def guard_Beyond_gu (K : Nat) (t : guard_Beyond_h.T) : Option (Bool × Unit) :=
  guard_Beyond_g K t.1 t.2.1 t.2.2.1 t.2.2.2.1 t.2.2.2.2.1
noncomputable def guard_Beyond_o (K : Nat) : FO := fnFO guard_Beyond_h guard_Beyond_r fun t => guard_Beyond_gu K t
theorem guard_Beyond_ok (K : Nat) : FOok Tryz.prog 210 (guard_Beyond_o K) := fnE Bs [] [] [] trivial trivial 0 Tryz.func210 fun t => by kernel_rfl
/-! guard_alarm_holds -/
noncomputable def guard_alarm_holds_n (K : Nat) : List (FuncId × FO) := [(209, guard_Back_o K), (210, guard_Beyond_o K)]
theorem guard_alarm_holds_k (K : Nat) : fnsOk Tryz.prog (guard_alarm_holds_n K) := ⟨guard_Back_ok K, guard_Beyond_ok K, trivial⟩
noncomputable def guard_alarm_holds_h : Sh := ⟨2, [(0, .ag [i6, .b, i6, i6, .b, i6]), (1, .sc (i6))], [], []⟩
noncomputable def guard_alarm_holds_r : Sh := ⟨1, [(0, .sc (.b))], [], []⟩
noncomputable def guard_alarm_holds_g (K : Nat) (a0 : Int) (b1 : Bool) (a2 a3 : Int) (b4 : Bool) (a5 a6 : Int) : Option (Bool × Unit) :=
  (bif b4 then ((guard_Back_g K a0 b1 a2 a3 a6).bind fun q1 => (some (q1.1, ()))) else ((guard_Beyond_g K a0 b1 a2 a3 a6).bind fun q2 => (some (q2.1, ()))))
noncomputable def guard_alarm_holds_gu (K : Nat) (t : guard_alarm_holds_h.T) : Option (Bool × Unit) :=
  guard_alarm_holds_g K t.1 t.2.1 t.2.2.1 t.2.2.2.1 t.2.2.2.2.1 t.2.2.2.2.2.1 t.2.2.2.2.2.2.1
noncomputable def guard_alarm_holds_o (K : Nat) : FO := fnFO guard_alarm_holds_h guard_alarm_holds_r fun t => guard_alarm_holds_gu K t
theorem guard_alarm_holds_ok (K : Nat) : FOok Tryz.prog 193 (guard_alarm_holds_o K) := fnE Bs (guard_alarm_holds_n K) [] [] (guard_alarm_holds_k K) trivial 0 Tryz.func193 fun t => by kernel_rfl
/-! guard_Step -/
noncomputable def guard_Step_n (K : Nat) : List (FuncId × FO) := [(52, guard_Check_o K), (122, guard_within_o K), (193, guard_alarm_holds_o K)]
theorem guard_Step_k (K : Nat) : fnsOk Tryz.prog (guard_Step_n K) := ⟨guard_Check_ok K, guard_within_ok K, guard_alarm_holds_ok K, trivial⟩
noncomputable def guard_Step_i : List (FuncId × Func) := [(161, Tryz.f161)]
theorem guard_Step_j : inlOk Tryz.prog guard_Step_i := ⟨⟨Tryz.func161, by kernel_rfl⟩, trivial⟩
noncomputable def guard_Step_l0h : Sh := ⟨77, [(1, .sc (i6)), (2, .sc (i6)), (8, .sc (.lit (.p 0 0 0 []))), (9, .sc (.lit (.p 1 0 0 []))), (11, .sc (.lit (.p 2 0 0 []))), (39, .ag [i6, .b, i6, i6, i6, .b, i6, i6, i6, .b, i6, i6, i6, .b, i6, i6, i6, .b, i6, i6, i6, .b, i6, i6]), (40, .sc (i6))], [(0, [])], [(true, false, [i6, i6, i6, i6, i6, i6]), (true, false, [i6, i6, i6, i6]), (true, false, [i6, i6, i6, i6, i6, i6])]⟩
noncomputable def guard_Step_l0x0 : Sh := ⟨77, [(2, .sc (i6)), (8, .sc (.lit (.p 0 0 0 []))), (11, .sc (.lit (.p 1 0 0 [])))], [(0, [])], [(true, false, [i6, i6, i6, i6, i6, i6]), (true, false, [i6, i6, i6, i6, i6, i6])]⟩
noncomputable def guard_Step_l0r (K : Nat) (rec : Int → Int → Int → Bool → Int → Int → Int → Bool → Int → Int → Int → Bool → Int → Int → Int → Bool → Int → Int → Int → Bool → Int → Int → Int → Bool → Int → Int → Int → Int → Int → Int → Int → Int → Int → Int → Int → Int → Int → Int → Int → Int → Int → Int → Int → Option (Int × Int × Int × Int × Int × Int × Int × Int × Int × Int × Int × Int × Int × Unit)) (a0 a1 a2 : Int) (b3 : Bool) (a4 a5 a6 : Int) (b7 : Bool) (a8 a9 a10 : Int) (b11 : Bool) (a12 a13 a14 : Int) (b15 : Bool) (a16 a17 a18 : Int) (b19 : Bool) (a20 a21 a22 : Int) (b23 : Bool) (a24 a25 a26 a27 a28 a29 a30 a31 a32 a33 a34 a35 a36 a37 a38 a39 a40 a41 a42 : Int) : Option (Int × Int × Int × Int × Int × Int × Int × Int × Int × Int × Int × Int × Int × Unit) :=
  (bif (decide (a26 < 6)) then (bif ((decide (0 ≤ a26)) && (decide (a26 < 6))) then (bif (decide (a26 < 0)) then none else (bif ((decide (0 ≤ a26)) && (decide (a26 < 6))) then (bif ((decide (0 ≤ (selI [a2, a6, a10, a14, a18, a22] (Int.toNat a26)))) && (decide ((selI [a2, a6, a10, a14, a18, a22] (Int.toNat a26)) < 4))) then ((guard_alarm_holds_g K (selI [a2, a6, a10, a14, a18, a22] (Int.toNat a26)) (selB [b3, b7, b11, b15, b19, b23] (Int.toNat a26)) (selI [a4, a8, a12, a16, a20, a24] (Int.toNat a26)) (selI [a5, a9, a13, a17, a21, a25] (Int.toNat a26)) ((bitAnd .i64 (shR .i64 a1 a26) 1) == 1) (selI [a27, a28, a29, a30, a31, a32] (Int.toNat a26)) (selI [a33, a34, a35, a36] (Int.toNat (selI [a2, a6, a10, a14, a18, a22] (Int.toNat a26))))).bind fun q1 => (bif (!q1.1) then (bif ((decide (0 ≤ a26)) && (decide (a26 < 6))) then (bif (!(((bitAnd .i64 (shR .i64 a1 a26) 1) == 1) == ((bitAnd .i64 (shR .i64 a1 a26) 1) == 1))) then (bif (decide (a26 < 0)) then none else (rec a0 (bitXor .i64 a1 (shL .i64 1 a26)) a2 b3 a4 a5 a6 b7 a8 a9 a10 b11 a12 a13 a14 b15 a16 a17 a18 b19 a20 a21 a22 b23 a24 a25 (wi64 (a26 + 1)) (bif (Nat.beq (Int.toNat a26) 0) then 0 else a27) (bif (Nat.beq (Int.toNat a26) 1) then 0 else a28) (bif (Nat.beq (Int.toNat a26) 2) then 0 else a29) (bif (Nat.beq (Int.toNat a26) 3) then 0 else a30) (bif (Nat.beq (Int.toNat a26) 4) then 0 else a31) (bif (Nat.beq (Int.toNat a26) 5) then 0 else a32) a33 a34 a35 a36 a37 a38 a39 a40 a41 a42)) else (rec a0 a1 a2 b3 a4 a5 a6 b7 a8 a9 a10 b11 a12 a13 a14 b15 a16 a17 a18 b19 a20 a21 a22 b23 a24 a25 (wi64 (a26 + 1)) (bif (Nat.beq (Int.toNat a26) 0) then 0 else a27) (bif (Nat.beq (Int.toNat a26) 1) then 0 else a28) (bif (Nat.beq (Int.toNat a26) 2) then 0 else a29) (bif (Nat.beq (Int.toNat a26) 3) then 0 else a30) (bif (Nat.beq (Int.toNat a26) 4) then 0 else a31) (bif (Nat.beq (Int.toNat a26) 5) then 0 else a32) a33 a34 a35 a36 a37 a38 a39 a40 a41 a42)) else none) else (bif ((wi64 ((selI [a27, a28, a29, a30, a31, a32] (Int.toNat a26)) + 1)) == a0) then (bif ((decide (0 ≤ a26)) && (decide (a26 < 6))) then (bif (!((!((bitAnd .i64 (shR .i64 a1 a26) 1) == 1)) == ((bitAnd .i64 (shR .i64 a1 a26) 1) == 1))) then (bif (decide (a26 < 0)) then none else (rec a0 (bitXor .i64 a1 (shL .i64 1 a26)) a2 b3 a4 a5 a6 b7 a8 a9 a10 b11 a12 a13 a14 b15 a16 a17 a18 b19 a20 a21 a22 b23 a24 a25 (wi64 (a26 + 1)) (bif (Nat.beq (Int.toNat a26) 0) then 0 else a27) (bif (Nat.beq (Int.toNat a26) 1) then 0 else a28) (bif (Nat.beq (Int.toNat a26) 2) then 0 else a29) (bif (Nat.beq (Int.toNat a26) 3) then 0 else a30) (bif (Nat.beq (Int.toNat a26) 4) then 0 else a31) (bif (Nat.beq (Int.toNat a26) 5) then 0 else a32) a33 a34 a35 a36 a37 a38 a39 a40 a41 a42)) else (rec a0 a1 a2 b3 a4 a5 a6 b7 a8 a9 a10 b11 a12 a13 a14 b15 a16 a17 a18 b19 a20 a21 a22 b23 a24 a25 (wi64 (a26 + 1)) (bif (Nat.beq (Int.toNat a26) 0) then 0 else a27) (bif (Nat.beq (Int.toNat a26) 1) then 0 else a28) (bif (Nat.beq (Int.toNat a26) 2) then 0 else a29) (bif (Nat.beq (Int.toNat a26) 3) then 0 else a30) (bif (Nat.beq (Int.toNat a26) 4) then 0 else a31) (bif (Nat.beq (Int.toNat a26) 5) then 0 else a32) a33 a34 a35 a36 a37 a38 a39 a40 a41 a42)) else none) else (bif ((decide (0 ≤ a26)) && (decide (a26 < 6))) then ((fun (q2 : Int) => (bif (!(((bitAnd .i64 (shR .i64 a1 a26) 1) == 1) == ((bitAnd .i64 (shR .i64 a1 a26) 1) == 1))) then (bif (decide (a26 < 0)) then none else (rec a0 (bitXor .i64 a1 (shL .i64 1 a26)) a2 b3 a4 a5 a6 b7 a8 a9 a10 b11 a12 a13 a14 b15 a16 a17 a18 b19 a20 a21 a22 b23 a24 a25 (wi64 (a26 + 1)) (bif (Nat.beq (Int.toNat a26) 0) then q2 else a27) (bif (Nat.beq (Int.toNat a26) 1) then q2 else a28) (bif (Nat.beq (Int.toNat a26) 2) then q2 else a29) (bif (Nat.beq (Int.toNat a26) 3) then q2 else a30) (bif (Nat.beq (Int.toNat a26) 4) then q2 else a31) (bif (Nat.beq (Int.toNat a26) 5) then q2 else a32) a33 a34 a35 a36 a37 a38 a39 a40 a41 a42)) else (rec a0 a1 a2 b3 a4 a5 a6 b7 a8 a9 a10 b11 a12 a13 a14 b15 a16 a17 a18 b19 a20 a21 a22 b23 a24 a25 (wi64 (a26 + 1)) (bif (Nat.beq (Int.toNat a26) 0) then q2 else a27) (bif (Nat.beq (Int.toNat a26) 1) then q2 else a28) (bif (Nat.beq (Int.toNat a26) 2) then q2 else a29) (bif (Nat.beq (Int.toNat a26) 3) then q2 else a30) (bif (Nat.beq (Int.toNat a26) 4) then q2 else a31) (bif (Nat.beq (Int.toNat a26) 5) then q2 else a32) a33 a34 a35 a36 a37 a38 a39 a40 a41 a42))) ((wi64 ((selI [a27, a28, a29, a30, a31, a32] (Int.toNat a26)) + 1)))) else none)))) else none) else none)) else none) else (some (a1, a27, a28, a29, a30, a31, a32, a37, a38, a39, a40, a41, a42, ())))
noncomputable def guard_Step_l0 (K n : Nat) := itN (fun _ _ _ _ _ _ _ _ _ _ _ _ _ _ _ _ _ _ _ _ _ _ _ _ _ _ _ _ _ _ _ _ _ _ _ _ _ _ _ _ _ _ _ => none) (guard_Step_l0r K) n
noncomputable def guard_Step_l0u (K n : Nat) (t : guard_Step_l0h.T) : Option (Int × Int × Int × Int × Int × Int × Int × Int × Int × Int × Int × Int × Int × Unit) :=
  let u1 := t.2
  let u2 := u1.2
  let u3 := u2.2
  let u4 := u3.2
  let u5 := u4.2
  let u6 := u5.2
  let u7 := u6.2
  let u8 := u7.2
  let u9 := u8.2
  let u10 := u9.2
  let u11 := u10.2
  let u12 := u11.2
  let u13 := u12.2
  let u14 := u13.2
  let u15 := u14.2
  let u16 := u15.2
  let u17 := u16.2
  let u18 := u17.2
  let u19 := u18.2
  let u20 := u19.2
  let u21 := u20.2
  let u22 := u21.2
  let u23 := u22.2
  let u24 := u23.2
  let u25 := u24.2
  let u26 := u25.2
  let u27 := u26.2
  let u28 := u27.2
  let u29 := u28.2
  let u30 := u29.2
  let u31 := u30.2
  let u32 := u31.2
  let u33 := u32.2
  let u34 := u33.2
  let u35 := u34.2
  let u36 := u35.2
  let u37 := u36.2
  let u38 := u37.2
  let u39 := u38.2
  let u40 := u39.2
  let u41 := u40.2
  let u42 := u41.2
  guard_Step_l0 K n t.1 u1.1 u2.1 u3.1 u4.1 u5.1 u6.1 u7.1 u8.1 u9.1 u10.1 u11.1 u12.1 u13.1 u14.1 u15.1 u16.1 u17.1 u18.1 u19.1 u20.1 u21.1 u22.1 u23.1 u24.1 u25.1 u26.1 u27.1 u28.1 u29.1 u30.1 u31.1 u32.1 u33.1 u34.1 u35.1 u36.1 u37.1 u38.1 u39.1 u40.1 u41.1 u42.1
noncomputable def guard_Step_l0E (K : Nat) : LoopE Tryz.prog := lpE Bs (guard_Step_n K) guard_Step_i [] (guard_Step_k K) guard_Step_j 9 Tryz.func92 6 [] guard_Step_l0h (OutI.exit 0 guard_Step_l0x0) (fun n t => guard_Step_l0u K n t) (fun _ => rfl) (fun n t => by kernel_rfl) K
noncomputable def guard_Step_h : Sh := ⟨5, [(0, .ag [i6, .b, i6, i6, i6, .b, i6, i6, i6, .b, i6, i6, i6, .b, i6, i6, i6, .b, i6, i6, i6, .b, i6, i6]), (1, .sc (i6)), (2, .sc (i6)), (3, .ag [i6, i6, i6, i6, i6, i6]), (4, .ag [i6, i6, i6, i6])], [], []⟩
noncomputable def guard_Step_r : Sh := ⟨3, [(0, .sc (i6)), (1, .ag [i6, i6, i6, i6, i6, i6]), (2, .sc (i6))], [], []⟩
noncomputable def guard_Step_g (K : Nat) (a0 : Int) (b1 : Bool) (a2 a3 a4 : Int) (b5 : Bool) (a6 a7 a8 : Int) (b9 : Bool) (a10 a11 a12 : Int) (b13 : Bool) (a14 a15 a16 : Int) (b17 : Bool) (a18 a19 a20 : Int) (b21 : Bool) (a22 a23 a24 a25 a26 a27 a28 a29 a30 a31 a32 a33 a34 a35 : Int) : Option (Int × Int × Int × Int × Int × Int × Int × Int × Unit) :=
  ((guard_Check_g K a0 b1 a2 a3 a4 b5 a6 a7 a8 b9 a10 a11 a12 b13 a14 a15 a16 b17 a18 a19 a20 b21 a22 a23 a24).bind fun q1 => (bif (q1.1 != 0) then (some (0, 0, 0, 0, 0, 0, 0, 2, ())) else ((guard_within_g K 0 63 1 (fun j => (selI [a25] j))).bind fun q2 => (bif (!q2.1) then (some (0, 0, 0, 0, 0, 0, 0, 2, ())) else ((guard_within_g K 0 (wi64 (a24 - 1)) 6 (fun j => (selI [a26, a27, a28, a29, a30, a31] j))).bind fun q3 => (bif (!q3.1) then (some (0, 0, 0, 0, 0, 0, 0, 2, ())) else ((guard_Step_l0 K K a24 a25 a0 b1 a2 a3 a4 b5 a6 a7 a8 b9 a10 a11 a12 b13 a14 a15 a16 b17 a18 a19 a20 b21 a22 a23 0 a26 a27 a28 a29 a30 a31 a32 a33 a34 a35 0 0 0 0 0 0).bind fun q4 => let q4_1 := q4.2; let q4_2 := q4_1.2; let q4_3 := q4_2.2; let q4_4 := q4_3.2; let q4_5 := q4_4.2; let q4_6 := q4_5.2; (some (q4.1, q4_1.1, q4_2.1, q4_3.1, q4_4.1, q4_5.1, q4_6.1, 0, ())))))))))
noncomputable def guard_Step_gu (K : Nat) (t : guard_Step_h.T) : Option (Int × Int × Int × Int × Int × Int × Int × Int × Unit) :=
  let u1 := t.2
  let u2 := u1.2
  let u3 := u2.2
  let u4 := u3.2
  let u5 := u4.2
  let u6 := u5.2
  let u7 := u6.2
  let u8 := u7.2
  let u9 := u8.2
  let u10 := u9.2
  let u11 := u10.2
  let u12 := u11.2
  let u13 := u12.2
  let u14 := u13.2
  let u15 := u14.2
  let u16 := u15.2
  let u17 := u16.2
  let u18 := u17.2
  let u19 := u18.2
  let u20 := u19.2
  let u21 := u20.2
  let u22 := u21.2
  let u23 := u22.2
  let u24 := u23.2
  let u25 := u24.2
  let u26 := u25.2
  let u27 := u26.2
  let u28 := u27.2
  let u29 := u28.2
  let u30 := u29.2
  let u31 := u30.2
  let u32 := u31.2
  let u33 := u32.2
  let u34 := u33.2
  let u35 := u34.2
  guard_Step_g K t.1 u1.1 u2.1 u3.1 u4.1 u5.1 u6.1 u7.1 u8.1 u9.1 u10.1 u11.1 u12.1 u13.1 u14.1 u15.1 u16.1 u17.1 u18.1 u19.1 u20.1 u21.1 u22.1 u23.1 u24.1 u25.1 u26.1 u27.1 u28.1 u29.1 u30.1 u31.1 u32.1 u33.1 u34.1 u35.1
noncomputable def guard_Step_o (K : Nat) : FO := fnFO guard_Step_h guard_Step_r fun t => guard_Step_gu K t
theorem guard_Step_ok (K : Nat) : FOok Tryz.prog 92 (guard_Step_o K) := fnE Bs (guard_Step_n K) guard_Step_i [guard_Step_l0E K] (guard_Step_k K) guard_Step_j 9 Tryz.func92 fun t => by kernel_rfl
/-! state_Step -/
noncomputable def state_Step_n (K : Nat) : List (FuncId × FO) := [(16, state_Fits_o K), (28, sample_Read_o K), (82, coulomb_Add_o K), (83, cycle_Step_o K), (84, model_Step_o K), (85, rest_Step_o K), (86, fuse_Go_o K), (87, rest_Is_o K), (88, model_Rested_o K), (89, fuse_Told_o K), (90, fuse_Rest_o K), (91, health_Anchor_o K), (92, guard_Step_o K)]
theorem state_Step_k (K : Nat) : fnsOk Tryz.prog (state_Step_n K) := ⟨state_Fits_ok K, sample_Read_ok K, coulomb_Add_ok K, cycle_Step_ok K, model_Step_ok K, rest_Step_ok K, fuse_Go_ok K, rest_Is_ok K, model_Rested_ok K, fuse_Told_ok K, fuse_Rest_ok K, health_Anchor_ok K, guard_Step_ok K, trivial⟩
noncomputable def state_Step_i : List (FuncId × Func) := [(29, Tryz.f29), (30, Tryz.f30), (31, Tryz.f31), (32, Tryz.f32), (33, Tryz.f33), (34, Tryz.f34), (35, Tryz.f35)]
theorem state_Step_j : inlOk Tryz.prog state_Step_i := ⟨⟨Tryz.func29, by kernel_rfl⟩, ⟨Tryz.func30, by kernel_rfl⟩, ⟨Tryz.func31, by kernel_rfl⟩, ⟨Tryz.func32, by kernel_rfl⟩, ⟨Tryz.func33, by kernel_rfl⟩, ⟨Tryz.func34, by kernel_rfl⟩, ⟨Tryz.func35, by kernel_rfl⟩, trivial⟩
noncomputable def state_Step_l0h : Sh := ⟨92, [(6, .sc (.lit (.p 0 0 0 []))), (10, .sc (.lit (.p 1 0 0 []))), (65, .sc (.slf 2 0 1 7)), (66, .sc (i6)), (67, .sc (i6))], [(0, [])], [(true, false, [i6, i6, i6, i6, i6, i6, i6, i6, i6, i6, i6, i6, i6, i6, i6, i6, i6, i6, i6, i6, i6, i6, i6]), (true, false, [i6, i6, i6, i6, i6, i6, i6, i6, i6, i6, i6, i6, i6, i6, i6, i6, i6, i6, i6, i6, i6, i6, i6, i6, i6, i6, i6, i6, i6, i6, i6, i6, i6, i6, i6, i6, i6, i6, i6, i6, i6, i6, i6, i6, i6, i6, .slr0 3, .slr0 4, .slr0 5, i6, i6, i6, i6, i6, i6, .b, i6, i6, i6, .b, i6, i6, i6, .b, i6, i6, i6, .b, i6, i6, i6, .b, i6, i6, i6, .b, i6, i6, i6, i6, i6, i6, i6, i6]), (true, false, [.lit (.fn 29 1 [.p 1 0 0 []]), .lit (.fn 30 1 [.p 1 0 0 []]), .lit (.fn 31 1 [.p 1 0 0 []]), .lit (.fn 32 1 [.p 1 0 0 []]), .lit (.fn 33 1 [.p 1 0 0 []]), .lit (.fn 34 1 [.p 1 0 0 []]), .lit (.fn 35 1 [.p 1 0 0 []])]), (false, true, [r6]), (false, true, [r6]), (false, true, [r6])]⟩
noncomputable def state_Step_l0x0 : Sh := ⟨92, [(6, .sc (.lit (.p 0 0 0 []))), (10, .sc (.lit (.p 1 0 0 [])))], [(0, [])], [(true, false, [i6, i6, i6, i6, i6, i6, i6, i6, i6, i6, i6, i6, i6, i6, i6, i6, i6, i6, i6, i6, i6, i6, i6]), (true, false, [i6, i6, i6, i6, i6, i6, i6, i6, i6, i6, i6, i6, i6, i6, i6, i6, i6, i6, i6, i6, i6, i6, i6, i6, i6, i6, i6, i6, i6, i6, i6, i6, i6, i6, i6, i6, i6, i6, i6, i6, i6, i6, i6, i6, i6, i6, .slr0 2, .slr0 3, .slr0 4, i6, i6, i6, i6, i6, i6, .b, i6, i6, i6, .b, i6, i6, i6, .b, i6, i6, i6, .b, i6, i6, i6, .b, i6, i6, i6, .b, i6, i6, i6, i6, i6, i6, i6, i6]), (false, true, [r6]), (false, true, [r6]), (false, true, [r6])]⟩
noncomputable def state_Step_l0x1 : Sh := ⟨92, [(6, .sc (.lit (.p 0 0 0 []))), (7, .sc (i6))], [(0, [])], [(true, false, [i6, i6, i6, i6, i6, i6, i6, i6, i6, i6, i6, i6, i6, i6, i6, i6, i6, i6, i6, i6, i6, i6, i6])]⟩
noncomputable def state_Step_l0r (K : Nat) (rec : Nat → Nat → Int → Int → Int → Int → Int → Int → Int → Int → Int → Int → Int → Int → Int → Int → Int → Int → Int → Int → Int → Int → Int → Int → Int → Int → Int → Int → Int → Int → Int → Int → Int → Int → Int → Int → Int → Int → Int → Int → Int → Int → Int → Int → Int → Int → Int → Int → Int → Int → Int → Int → Int → Int → Int → Int → Int → Int → Int → Int → Int → Int → Int → Int → Int → Int → Int → Int → Int → Int → Int → Int → Int → Nat → Nat → Nat → Int → Int → Int → Int → Int → Int → Bool → Int → Int → Int → Bool → Int → Int → Int → Bool → Int → Int → Int → Bool → Int → Int → Int → Bool → Int → Int → Int → Bool → Int → Int → Int → Int → Int → Int → Int → Int → (Nat → Int) → (Nat → Int) → (Nat → Int) → Option ((Int × Int × Int × Int × Int × Int × Int × Int × Int × Int × Int × Int × Int × Int × Int × Int × Int × Int × Int × Int × Int × Int × Int × Int × Int × Int × Int × Int × Int × Int × Int × Int × Int × Int × Int × Int × Int × Int × Int × Int × Int × Int × Int × Int × Int × Int × Int × Int × Int × Int × Int × Int × Int × Int × Int × Int × Int × Int × Int × Int × Int × Int × Int × Int × Int × Int × Int × Int × Int × Nat × Nat × Nat × Int × Int × Int × Int × Int × Int × Bool × Int × Int × Int × Bool × Int × Int × Int × Bool × Int × Int × Int × Bool × Int × Int × Int × Bool × Int × Int × Int × Bool × Int × Int × Int × Int × Int × Int × Int × Int × (Nat → Int) × (Nat → Int) × (Nat → Int) × Unit) ⊕ (Int × Int × Int × Int × Int × Int × Int × Int × Int × Int × Int × Int × Int × Int × Int × Int × Int × Int × Int × Int × Int × Int × Int × Int × Unit))) (n0 n1 : Nat) (a2 a3 a4 a5 a6 a7 a8 a9 a10 a11 a12 a13 a14 a15 a16 a17 a18 a19 a20 a21 a22 a23 a24 a25 a26 a27 a28 a29 a30 a31 a32 a33 a34 a35 a36 a37 a38 a39 a40 a41 a42 a43 a44 a45 a46 a47 a48 a49 a50 a51 a52 a53 a54 a55 a56 a57 a58 a59 a60 a61 a62 a63 a64 a65 a66 a67 a68 a69 a70 a71 a72 : Int) (n73 n74 n75 : Nat) (a76 a77 a78 a79 a80 a81 : Int) (b82 : Bool) (a83 a84 a85 : Int) (b86 : Bool) (a87 a88 a89 : Int) (b90 : Bool) (a91 a92 a93 : Int) (b94 : Bool) (a95 a96 a97 : Int) (b98 : Bool) (a99 a100 a101 : Int) (b102 : Bool) (a103 a104 a105 a106 a107 a108 a109 a110 : Int) (m111 m112 m113 : (Nat → Int)) : Option ((Int × Int × Int × Int × Int × Int × Int × Int × Int × Int × Int × Int × Int × Int × Int × Int × Int × Int × Int × Int × Int × Int × Int × Int × Int × Int × Int × Int × Int × Int × Int × Int × Int × Int × Int × Int × Int × Int × Int × Int × Int × Int × Int × Int × Int × Int × Int × Int × Int × Int × Int × Int × Int × Int × Int × Int × Int × Int × Int × Int × Int × Int × Int × Int × Int × Int × Int × Int × Int × Nat × Nat × Nat × Int × Int × Int × Int × Int × Int × Bool × Int × Int × Int × Bool × Int × Int × Int × Bool × Int × Int × Int × Bool × Int × Int × Int × Bool × Int × Int × Int × Bool × Int × Int × Int × Int × Int × Int × Int × Int × (Nat → Int) × (Nat → Int) × (Nat → Int) × Unit) ⊕ (Int × Int × Int × Int × Int × Int × Int × Int × Int × Int × Int × Int × Int × Int × Int × Int × Int × Int × Int × Int × Int × Int × Int × Int × Unit)) :=
  (bif (decide (a3 < a2)) then (bif ((decide (0 ≤ a3)) && (decide (a3 < ((n1 : Nat) : Int)))) then (bif (Nat.beq ((Int.toNat a3) + n0) 6) then ((guard_Step_g K a81 b82 a83 a84 a85 b86 a87 a88 a89 b90 a91 a92 a93 b94 a95 a96 a97 b98 a99 a100 a101 b102 a103 a104 a105 a41 a42 a43 a44 a45 a46 a47 a107 a108 a109 a29).bind fun q11 => let q11_1 := q11.2; let q11_2 := q11_1.2; let q11_3 := q11_2.2; let q11_4 := q11_3.2; let q11_5 := q11_4.2; let q11_6 := q11_5.2; let q11_7 := q11_6.2; (bif (q11_7.1 != 0) then (some (.inr (210, 0, 0, 0, 0, 0, 0, 0, 0, 0, 0, 0, 0, 0, 0, 0, 0, 0, 0, 0, 0, 0, 0, 0, ()))) else (rec n0 n1 a2 (wi64 (a3 + 1)) a4 a5 a6 a7 a8 a9 a10 a11 a12 a13 a14 a15 a16 a17 a18 a19 a20 a21 a22 a23 a24 a25 a26 a27 a28 a29 a30 a31 a32 a33 a34 a35 a36 a37 a38 a39 a40 q11.1 q11_1.1 q11_2.1 q11_3.1 q11_4.1 q11_5.1 q11_6.1 a48 a49 a50 a51 a52 a53 a54 a55 a56 a57 a58 a59 a60 a61 a62 a63 a64 a65 a66 a67 a68 a69 a70 a71 a72 n73 n74 n75 a76 a77 a78 a79 a80 a81 b82 a83 a84 a85 b86 a87 a88 a89 b90 a91 a92 a93 b94 a95 a96 a97 b98 a99 a100 a101 b102 a103 a104 a105 a106 a107 a108 a109 a110 m111 m112 m113))) else (bif (Nat.beq ((Int.toNat a3) + n0) 5) then ((rest_Is_g K a65 a66 a67 a68 a69 a70 a71 a72 a34).bind fun q6 => (bif (!q6.1) then (rec n0 n1 a2 (wi64 (a3 + 1)) a4 a5 a6 a7 a8 a9 a10 a11 a12 a13 a14 a15 a16 a17 a18 a19 a20 a21 a22 a23 a24 a25 a26 a27 a28 a29 a30 a31 a32 a33 a34 a35 a36 a37 a38 a39 a40 a41 a42 a43 a44 a45 a46 a47 a48 a49 a50 a51 a52 a53 a54 a55 a56 a57 a58 a59 a60 a61 a62 a63 a64 a65 a66 a67 a68 a69 a70 a71 a72 n73 n74 n75 a76 a77 a78 a79 a80 a81 b82 a83 a84 a85 b86 a87 a88 a89 b90 a91 a92 a93 b94 a95 a96 a97 b98 a99 a100 a101 b102 a103 a104 a105 a106 a107 a108 a109 a110 m111 m112 m113) else ((model_Rested_g K a65 a66 a67 a68 a69 a70 a71 a72 a32 a33 a107 a108).bind fun q7 => (bif (q7.2.1 != 0) then (bif (q7.2.1 != 0) then (some (.inr (210, 0, 0, 0, 0, 0, 0, 0, 0, 0, 0, 0, 0, 0, 0, 0, 0, 0, 0, 0, 0, 0, 0, 0, ()))) else (rec n0 n1 a2 (wi64 (a3 + 1)) a4 a5 a6 a7 a8 a9 a10 a11 a12 a13 a14 a15 a16 a17 a18 a19 a20 a21 a22 a23 a24 a25 a26 a27 a28 a29 a30 a31 a32 a33 a34 a35 a36 a37 a38 a39 a40 a41 a42 a43 a44 a45 a46 a47 a48 a49 a50 a51 a52 a53 a54 a55 a56 a57 a58 a59 a60 a61 a62 a63 a64 a65 a66 a67 a68 a69 a70 a71 a72 n73 n74 n75 a76 a77 a78 a79 a80 a81 b82 a83 a84 a85 b86 a87 a88 a89 b90 a91 a92 a93 b94 a95 a96 a97 b98 a99 a100 a101 b102 a103 a104 a105 a106 a107 a108 a109 a110 m111 m112 m113)) else ((fuse_Told_g K n73 n74 n75 q7.1 a109 m111 m112 m113).bind fun q8 => (bif (q8.2.1 != 0) then (bif (q8.2.1 != 0) then (some (.inr (210, 0, 0, 0, 0, 0, 0, 0, 0, 0, 0, 0, 0, 0, 0, 0, 0, 0, 0, 0, 0, 0, 0, 0, ()))) else (rec n0 n1 a2 (wi64 (a3 + 1)) a4 a5 a6 a7 a8 a9 a10 a11 a12 a13 a14 a15 a16 a17 a18 a19 a20 a21 a22 a23 a24 a25 a26 a27 a28 a29 a30 a31 a32 a33 a34 a35 a36 a37 a38 a39 a40 a41 a42 a43 a44 a45 a46 a47 a48 a49 a50 a51 a52 a53 a54 a55 a56 a57 a58 a59 a60 a61 a62 a63 a64 a65 a66 a67 a68 a69 a70 a71 a72 n73 n74 n75 a76 a77 a78 a79 a80 a81 b82 a83 a84 a85 b86 a87 a88 a89 b90 a91 a92 a93 b94 a95 a96 a97 b98 a99 a100 a101 b102 a103 a104 a105 a106 a107 a108 a109 a110 m111 m112 m113)) else ((fuse_Rest_g K a27 a28 a29 a30 a31 a32 a33 a34 a35 a36 a37 a38 a39 a40 a41 a42 a43 a44 a45 a46 a47 a48 a49 q8.1 a76).bind fun q9 => let q9_1 := q9.2; let q9_2 := q9_1.2; let q9_3 := q9_2.2; let q9_4 := q9_3.2; let q9_5 := q9_4.2; let q9_6 := q9_5.2; let q9_7 := q9_6.2; let q9_8 := q9_7.2; let q9_9 := q9_8.2; let q9_10 := q9_9.2; let q9_11 := q9_10.2; let q9_12 := q9_11.2; let q9_13 := q9_12.2; let q9_14 := q9_13.2; let q9_15 := q9_14.2; let q9_16 := q9_15.2; let q9_17 := q9_16.2; let q9_18 := q9_17.2; let q9_19 := q9_18.2; let q9_20 := q9_19.2; let q9_21 := q9_20.2; let q9_22 := q9_21.2; let q9_23 := q9_22.2; (bif (q9_23.1 == 0) then ((health_Anchor_g K a50 a51 a52 a53 a54 a55 a56 a57 a58 a59 a60 a61 a62 a63 a64 a65 a66 a67 a68 a69 a70 a71 a72 n73 n74 n75 a76 a77 a78 a79 a80 a81 b82 a83 a84 a85 b86 a87 a88 a89 b90 a91 a92 a93 b94 a95 a96 a97 b98 a99 a100 a101 b102 a103 a104 a105 a106 q9.1 q9_1.1 q9_2.1 q9_3.1 q9_4.1 q9_5.1 q9_6.1 q9_7.1 q9_8.1 q9_9.1 q9_10.1 q9_11.1 q9_12.1 q9_13.1 q9_14.1 q9_15.1 q9_16.1 q9_17.1 q9_18.1 q9_19.1 q9_20.1 q9_21.1 q9_22.1 m111 m112 m113).bind fun q10 => let q10_1 := q10.2; let q10_2 := q10_1.2; let q10_3 := q10_2.2; let q10_4 := q10_3.2; let q10_5 := q10_4.2; let q10_6 := q10_5.2; let q10_7 := q10_6.2; let q10_8 := q10_7.2; let q10_9 := q10_8.2; let q10_10 := q10_9.2; let q10_11 := q10_10.2; let q10_12 := q10_11.2; let q10_13 := q10_12.2; let q10_14 := q10_13.2; let q10_15 := q10_14.2; let q10_16 := q10_15.2; let q10_17 := q10_16.2; let q10_18 := q10_17.2; let q10_19 := q10_18.2; let q10_20 := q10_19.2; let q10_21 := q10_20.2; let q10_22 := q10_21.2; let q10_23 := q10_22.2; (bif (q10_23.1 != 0) then (some (.inr (210, 0, 0, 0, 0, 0, 0, 0, 0, 0, 0, 0, 0, 0, 0, 0, 0, 0, 0, 0, 0, 0, 0, 0, ()))) else (rec n0 n1 a2 (wi64 (a3 + 1)) a4 a5 a6 a7 a8 a9 a10 a11 a12 a13 a14 a15 a16 a17 a18 a19 a20 a21 a22 a23 a24 a25 a26 q10.1 q10_1.1 q10_2.1 q10_3.1 q10_4.1 q10_5.1 q10_6.1 q10_7.1 q10_8.1 q10_9.1 q10_10.1 q10_11.1 q10_12.1 q10_13.1 q10_14.1 q10_15.1 q10_16.1 q10_17.1 q10_18.1 q10_19.1 q10_20.1 q10_21.1 q10_22.1 a50 a51 a52 a53 a54 a55 a56 a57 a58 a59 a60 a61 a62 a63 a64 a65 a66 a67 a68 a69 a70 a71 a72 n73 n74 n75 a76 a77 a78 a79 a80 a81 b82 a83 a84 a85 b86 a87 a88 a89 b90 a91 a92 a93 b94 a95 a96 a97 b98 a99 a100 a101 b102 a103 a104 a105 a106 a107 a108 a109 a110 m111 m112 m113))) else (bif (q9_23.1 != 0) then (some (.inr (210, 0, 0, 0, 0, 0, 0, 0, 0, 0, 0, 0, 0, 0, 0, 0, 0, 0, 0, 0, 0, 0, 0, 0, ()))) else (rec n0 n1 a2 (wi64 (a3 + 1)) a4 a5 a6 a7 a8 a9 a10 a11 a12 a13 a14 a15 a16 a17 a18 a19 a20 a21 a22 a23 a24 a25 a26 q9.1 q9_1.1 q9_2.1 q9_3.1 q9_4.1 q9_5.1 q9_6.1 q9_7.1 q9_8.1 q9_9.1 q9_10.1 q9_11.1 q9_12.1 q9_13.1 q9_14.1 q9_15.1 q9_16.1 q9_17.1 q9_18.1 q9_19.1 q9_20.1 q9_21.1 q9_22.1 a50 a51 a52 a53 a54 a55 a56 a57 a58 a59 a60 a61 a62 a63 a64 a65 a66 a67 a68 a69 a70 a71 a72 n73 n74 n75 a76 a77 a78 a79 a80 a81 b82 a83 a84 a85 b86 a87 a88 a89 b90 a91 a92 a93 b94 a95 a96 a97 b98 a99 a100 a101 b102 a103 a104 a105 a106 a107 a108 a109 a110 m111 m112 m113)))))))))) else (bif (Nat.beq ((Int.toNat a3) + n0) 4) then ((fuse_Go_g K a27 a28 a29 a30 a31 a32 a33 a34 a35 a36 a37 a38 a39 a40 a41 a42 a43 a44 a45 a46 a47 a48 a49).bind fun q5 => let q5_1 := q5.2; let q5_2 := q5_1.2; let q5_3 := q5_2.2; let q5_4 := q5_3.2; let q5_5 := q5_4.2; let q5_6 := q5_5.2; let q5_7 := q5_6.2; let q5_8 := q5_7.2; let q5_9 := q5_8.2; let q5_10 := q5_9.2; let q5_11 := q5_10.2; let q5_12 := q5_11.2; let q5_13 := q5_12.2; let q5_14 := q5_13.2; let q5_15 := q5_14.2; let q5_16 := q5_15.2; let q5_17 := q5_16.2; let q5_18 := q5_17.2; let q5_19 := q5_18.2; let q5_20 := q5_19.2; let q5_21 := q5_20.2; let q5_22 := q5_21.2; let q5_23 := q5_22.2; (bif (q5_23.1 != 0) then (some (.inr (210, 0, 0, 0, 0, 0, 0, 0, 0, 0, 0, 0, 0, 0, 0, 0, 0, 0, 0, 0, 0, 0, 0, 0, ()))) else (rec n0 n1 a2 (wi64 (a3 + 1)) a4 a5 a6 a7 a8 a9 a10 a11 a12 a13 a14 a15 a16 a17 a18 a19 a20 a21 a22 a23 a24 a25 a26 q5.1 q5_1.1 q5_2.1 q5_3.1 q5_4.1 q5_5.1 q5_6.1 q5_7.1 q5_8.1 q5_9.1 q5_10.1 q5_11.1 q5_12.1 q5_13.1 q5_14.1 q5_15.1 q5_16.1 q5_17.1 q5_18.1 q5_19.1 q5_20.1 q5_21.1 q5_22.1 a50 a51 a52 a53 a54 a55 a56 a57 a58 a59 a60 a61 a62 a63 a64 a65 a66 a67 a68 a69 a70 a71 a72 n73 n74 n75 a76 a77 a78 a79 a80 a81 b82 a83 a84 a85 b86 a87 a88 a89 b90 a91 a92 a93 b94 a95 a96 a97 b98 a99 a100 a101 b102 a103 a104 a105 a106 a107 a108 a109 a110 m111 m112 m113))) else (bif (Nat.beq ((Int.toNat a3) + n0) 3) then ((rest_Step_g K a65 a66 a67 a68 a69 a70 a71 a72 a34 a107 a32 a33 a110).bind fun q4 => (bif (q4.2.1 != 0) then (some (.inr (210, 0, 0, 0, 0, 0, 0, 0, 0, 0, 0, 0, 0, 0, 0, 0, 0, 0, 0, 0, 0, 0, 0, 0, ()))) else (rec n0 n1 a2 (wi64 (a3 + 1)) a4 a5 a6 a7 a8 a9 a10 a11 a12 a13 a14 a15 a16 a17 a18 a19 a20 a21 a22 a23 a24 a25 a26 a27 a28 a29 a30 a31 a32 a33 q4.1 a35 a36 a37 a38 a39 a40 a41 a42 a43 a44 a45 a46 a47 a48 a49 a50 a51 a52 a53 a54 a55 a56 a57 a58 a59 a60 a61 a62 a63 a64 a65 a66 a67 a68 a69 a70 a71 a72 n73 n74 n75 a76 a77 a78 a79 a80 a81 b82 a83 a84 a85 b86 a87 a88 a89 b90 a91 a92 a93 b94 a95 a96 a97 b98 a99 a100 a101 b102 a103 a104 a105 a106 a107 a108 a109 a110 m111 m112 m113))) else (bif (Nat.beq ((Int.toNat a3) + n0) 2) then ((model_Step_g K a65 a66 a67 a68 a69 a70 a71 a72 a32 a33 a107 a110).bind fun q3 => (bif (q3.2.2.1 != 0) then (some (.inr (210, 0, 0, 0, 0, 0, 0, 0, 0, 0, 0, 0, 0, 0, 0, 0, 0, 0, 0, 0, 0, 0, 0, 0, ()))) else (rec n0 n1 a2 (wi64 (a3 + 1)) a4 a5 a6 a7 a8 a9 a10 a11 a12 a13 a14 a15 a16 a17 a18 a19 a20 a21 a22 a23 a24 a25 a26 a27 a28 a29 a30 a31 q3.1 q3.2.1 a34 a35 a36 a37 a38 a39 a40 a41 a42 a43 a44 a45 a46 a47 a48 a49 a50 a51 a52 a53 a54 a55 a56 a57 a58 a59 a60 a61 a62 a63 a64 a65 a66 a67 a68 a69 a70 a71 a72 n73 n74 n75 a76 a77 a78 a79 a80 a81 b82 a83 a84 a85 b86 a87 a88 a89 b90 a91 a92 a93 b94 a95 a96 a97 b98 a99 a100 a101 b102 a103 a104 a105 a106 a107 a108 a109 a110 m111 m112 m113))) else (bif (Nat.beq ((Int.toNat a3) + n0) 1) then ((cycle_Step_g K a27 a28 a29 a30 a31 a32 a33 a34 a35 a36 a37 a38 a39 a40 a41 a42 a43 a44 a45 a46 a47 a48 a49 a107 a110).bind fun q2 => let q2_1 := q2.2; let q2_2 := q2_1.2; let q2_3 := q2_2.2; let q2_4 := q2_3.2; let q2_5 := q2_4.2; let q2_6 := q2_5.2; let q2_7 := q2_6.2; let q2_8 := q2_7.2; let q2_9 := q2_8.2; let q2_10 := q2_9.2; let q2_11 := q2_10.2; let q2_12 := q2_11.2; let q2_13 := q2_12.2; let q2_14 := q2_13.2; let q2_15 := q2_14.2; let q2_16 := q2_15.2; let q2_17 := q2_16.2; let q2_18 := q2_17.2; let q2_19 := q2_18.2; let q2_20 := q2_19.2; let q2_21 := q2_20.2; let q2_22 := q2_21.2; let q2_23 := q2_22.2; (bif (q2_23.1 != 0) then (some (.inr (210, 0, 0, 0, 0, 0, 0, 0, 0, 0, 0, 0, 0, 0, 0, 0, 0, 0, 0, 0, 0, 0, 0, 0, ()))) else (rec n0 n1 a2 (wi64 (a3 + 1)) a4 a5 a6 a7 a8 a9 a10 a11 a12 a13 a14 a15 a16 a17 a18 a19 a20 a21 a22 a23 a24 a25 a26 q2.1 q2_1.1 q2_2.1 q2_3.1 q2_4.1 q2_5.1 q2_6.1 q2_7.1 q2_8.1 q2_9.1 q2_10.1 q2_11.1 q2_12.1 q2_13.1 q2_14.1 q2_15.1 q2_16.1 q2_17.1 q2_18.1 q2_19.1 q2_20.1 q2_21.1 q2_22.1 a50 a51 a52 a53 a54 a55 a56 a57 a58 a59 a60 a61 a62 a63 a64 a65 a66 a67 a68 a69 a70 a71 a72 n73 n74 n75 a76 a77 a78 a79 a80 a81 b82 a83 a84 a85 b86 a87 a88 a89 b90 a91 a92 a93 b94 a95 a96 a97 b98 a99 a100 a101 b102 a103 a104 a105 a106 a107 a108 a109 a110 m111 m112 m113))) else (bif (Nat.beq ((Int.toNat a3) + n0) 0) then ((coulomb_Add_g K a27 a28 a107 a110).bind fun q1 => (bif (q1.2.2.1 != 0) then (some (.inr (210, 0, 0, 0, 0, 0, 0, 0, 0, 0, 0, 0, 0, 0, 0, 0, 0, 0, 0, 0, 0, 0, 0, 0, ()))) else (rec n0 n1 a2 (wi64 (a3 + 1)) a4 a5 a6 a7 a8 a9 a10 a11 a12 a13 a14 a15 a16 a17 a18 a19 a20 a21 a22 a23 a24 a25 a26 q1.1 q1.2.1 a29 a30 a31 a32 a33 a34 a35 a36 a37 a38 a39 a40 a41 a42 a43 a44 a45 a46 a47 a48 a49 a50 a51 a52 a53 a54 a55 a56 a57 a58 a59 a60 a61 a62 a63 a64 a65 a66 a67 a68 a69 a70 a71 a72 n73 n74 n75 a76 a77 a78 a79 a80 a81 b82 a83 a84 a85 b86 a87 a88 a89 b90 a91 a92 a93 b94 a95 a96 a97 b98 a99 a100 a101 b102 a103 a104 a105 a106 a107 a108 a109 a110 m111 m112 m113))) else none))))))) else none) else (some (.inl (a4, a5, a6, a7, a8, a9, a10, a11, a12, a13, a14, a15, a16, a17, a18, a19, a20, a21, a22, a23, a24, a25, a26, a27, a28, a29, a30, a31, a32, a33, a34, a35, a36, a37, a38, a39, a40, a41, a42, a43, a44, a45, a46, a47, a48, a49, a50, a51, a52, a53, a54, a55, a56, a57, a58, a59, a60, a61, a62, a63, a64, a65, a66, a67, a68, a69, a70, a71, a72, n73, n74, n75, a76, a77, a78, a79, a80, a81, b82, a83, a84, a85, b86, a87, a88, a89, b90, a91, a92, a93, b94, a95, a96, a97, b98, a99, a100, a101, b102, a103, a104, a105, a106, a107, a108, a109, a110, m111, m112, m113, ()))))
noncomputable def state_Step_l0 (K n : Nat) := itN (fun _ _ _ _ _ _ _ _ _ _ _ _ _ _ _ _ _ _ _ _ _ _ _ _ _ _ _ _ _ _ _ _ _ _ _ _ _ _ _ _ _ _ _ _ _ _ _ _ _ _ _ _ _ _ _ _ _ _ _ _ _ _ _ _ _ _ _ _ _ _ _ _ _ _ _ _ _ _ _ _ _ _ _ _ _ _ _ _ _ _ _ _ _ _ _ _ _ _ _ _ _ _ _ _ _ _ _ _ _ _ _ _ _ _ => none) (state_Step_l0r K) n
noncomputable def state_Step_l0u (K n : Nat) (t : state_Step_l0h.T) : Option ((Int × Int × Int × Int × Int × Int × Int × Int × Int × Int × Int × Int × Int × Int × Int × Int × Int × Int × Int × Int × Int × Int × Int × Int × Int × Int × Int × Int × Int × Int × Int × Int × Int × Int × Int × Int × Int × Int × Int × Int × Int × Int × Int × Int × Int × Int × Int × Int × Int × Int × Int × Int × Int × Int × Int × Int × Int × Int × Int × Int × Int × Int × Int × Int × Int × Int × Int × Int × Int × Nat × Nat × Nat × Int × Int × Int × Int × Int × Int × Bool × Int × Int × Int × Bool × Int × Int × Int × Bool × Int × Int × Int × Bool × Int × Int × Int × Bool × Int × Int × Int × Bool × Int × Int × Int × Int × Int × Int × Int × Int × (Nat → Int) × (Nat → Int) × (Nat → Int) × Unit) ⊕ (Int × Int × Int × Int × Int × Int × Int × Int × Int × Int × Int × Int × Int × Int × Int × Int × Int × Int × Int × Int × Int × Int × Int × Int × Unit)) :=
  let u1 := t.2
  let u2 := u1.2
  let u3 := u2.2
  let u4 := u3.2
  let u5 := u4.2
  let u6 := u5.2
  let u7 := u6.2
  let u8 := u7.2
  let u9 := u8.2
  let u10 := u9.2
  let u11 := u10.2
  let u12 := u11.2
  let u13 := u12.2
  let u14 := u13.2
  let u15 := u14.2
  let u16 := u15.2
  let u17 := u16.2
  let u18 := u17.2
  let u19 := u18.2
  let u20 := u19.2
  let u21 := u20.2
  let u22 := u21.2
  let u23 := u22.2
  let u24 := u23.2
  let u25 := u24.2
  let u26 := u25.2
  let u27 := u26.2
  let u28 := u27.2
  let u29 := u28.2
  let u30 := u29.2
  let u31 := u30.2
  let u32 := u31.2
  let u33 := u32.2
  let u34 := u33.2
  let u35 := u34.2
  let u36 := u35.2
  let u37 := u36.2
  let u38 := u37.2
  let u39 := u38.2
  let u40 := u39.2
  let u41 := u40.2
  let u42 := u41.2
  let u43 := u42.2
  let u44 := u43.2
  let u45 := u44.2
  let u46 := u45.2
  let u47 := u46.2
  let u48 := u47.2
  let u49 := u48.2
  let u50 := u49.2
  let u51 := u50.2
  let u52 := u51.2
  let u53 := u52.2
  let u54 := u53.2
  let u55 := u54.2
  let u56 := u55.2
  let u57 := u56.2
  let u58 := u57.2
  let u59 := u58.2
  let u60 := u59.2
  let u61 := u60.2
  let u62 := u61.2
  let u63 := u62.2
  let u64 := u63.2
  let u65 := u64.2
  let u66 := u65.2
  let u67 := u66.2
  let u68 := u67.2
  let u69 := u68.2
  let u70 := u69.2
  let u71 := u70.2
  let u72 := u71.2
  let u73 := u72.2
  let u74 := u73.2
  let u75 := u74.2
  let u76 := u75.2
  let u77 := u76.2
  let u78 := u77.2
  let u79 := u78.2
  let u80 := u79.2
  let u81 := u80.2
  let u82 := u81.2
  let u83 := u82.2
  let u84 := u83.2
  let u85 := u84.2
  let u86 := u85.2
  let u87 := u86.2
  let u88 := u87.2
  let u89 := u88.2
  let u90 := u89.2
  let u91 := u90.2
  let u92 := u91.2
  let u93 := u92.2
  let u94 := u93.2
  let u95 := u94.2
  let u96 := u95.2
  let u97 := u96.2
  let u98 := u97.2
  let u99 := u98.2
  let u100 := u99.2
  let u101 := u100.2
  let u102 := u101.2
  let u103 := u102.2
  let u104 := u103.2
  let u105 := u104.2
  let u106 := u105.2
  let u107 := u106.2
  let u108 := u107.2
  let u109 := u108.2
  let u110 := u109.2
  let u111 := u110.2
  let u112 := u111.2
  let u113 := u112.2
  state_Step_l0 K n t.1 u1.1 u2.1 u3.1 u4.1 u5.1 u6.1 u7.1 u8.1 u9.1 u10.1 u11.1 u12.1 u13.1 u14.1 u15.1 u16.1 u17.1 u18.1 u19.1 u20.1 u21.1 u22.1 u23.1 u24.1 u25.1 u26.1 u27.1 u28.1 u29.1 u30.1 u31.1 u32.1 u33.1 u34.1 u35.1 u36.1 u37.1 u38.1 u39.1 u40.1 u41.1 u42.1 u43.1 u44.1 u45.1 u46.1 u47.1 u48.1 u49.1 u50.1 u51.1 u52.1 u53.1 u54.1 u55.1 u56.1 u57.1 u58.1 u59.1 u60.1 u61.1 u62.1 u63.1 u64.1 u65.1 u66.1 u67.1 u68.1 u69.1 u70.1 u71.1 u72.1 u73.1 u74.1 u75.1 u76.1 u77.1 u78.1 u79.1 u80.1 u81.1 u82.1 u83.1 u84.1 u85.1 u86.1 u87.1 u88.1 u89.1 u90.1 u91.1 u92.1 u93.1 u94.1 u95.1 u96.1 u97.1 u98.1 u99.1 u100.1 u101.1 u102.1 u103.1 u104.1 u105.1 u106.1 u107.1 u108.1 u109.1 u110.1 u111.1 u112.1 u113.1
noncomputable def state_Step_l0E (K : Nat) : LoopE Tryz.prog := lpE Bs (state_Step_n K) state_Step_i [] (state_Step_k K) state_Step_j 9 Tryz.func10 9 [] state_Step_l0h (OutI.or (OutI.exit 0 state_Step_l0x0) (OutI.ret state_Step_l0x1)) (fun n t => state_Step_l0u K n t) (fun _ => rfl) (fun n t => by kernel_rfl) K
noncomputable def state_Step_h : Sh := ⟨3, [(0, .ag [i6, i6, i6, i6, i6, i6, i6, i6, i6, i6, i6, i6, i6, i6, i6, i6, i6, i6, i6, i6, i6, i6, i6, .slr0 0, .slr0 1, .slr0 2, i6, i6, i6, i6, i6, i6, .b, i6, i6, i6, .b, i6, i6, i6, .b, i6, i6, i6, .b, i6, i6, i6, .b, i6, i6, i6, .b, i6, i6, i6, i6]), (1, .ag [i6, i6, i6, i6, i6, i6, i6, i6, i6, i6, i6, i6, i6, i6, i6, i6, i6, i6, i6, i6, i6, i6, i6]), (2, .ag [i6, i6, i6, i6])], [], [(false, true, [r6]), (false, true, [r6]), (false, true, [r6])]⟩
noncomputable def state_Step_r : Sh := ⟨2, [(0, .ag [i6, i6, i6, i6, i6, i6, i6, i6, i6, i6, i6, i6, i6, i6, i6, i6, i6, i6, i6, i6, i6, i6, i6]), (1, .sc (i6))], [], []⟩
noncomputable def state_Step_g (K : Nat) (a0 a1 a2 a3 a4 a5 a6 a7 a8 a9 a10 a11 a12 a13 a14 a15 a16 a17 a18 a19 a20 a21 a22 : Int) (n23 n24 n25 : Nat) (a26 a27 a28 a29 a30 a31 : Int) (b32 : Bool) (a33 a34 a35 : Int) (b36 : Bool) (a37 a38 a39 : Int) (b40 : Bool) (a41 a42 a43 : Int) (b44 : Bool) (a45 a46 a47 : Int) (b48 : Bool) (a49 a50 a51 : Int) (b52 : Bool) (a53 a54 a55 a56 a57 a58 a59 a60 a61 a62 a63 a64 a65 a66 a67 a68 a69 a70 a71 a72 a73 a74 a75 a76 a77 a78 a79 a80 a81 a82 a83 : Int) (m84 m85 m86 : (Nat → Int)) : Option (Int × Int × Int × Int × Int × Int × Int × Int × Int × Int × Int × Int × Int × Int × Int × Int × Int × Int × Int × Int × Int × Int × Int × Int × Unit) :=
  ((state_Fits_g K a0 a1 a2 a3 a4 a5 a6 a7 a8 a9 a10 a11 a12 a13 a14 a15 a16 a17 a18 a19 a20 a21 a22 n23 n24 n25 a26 a27 a28 a29 a30 a31 b32 a33 a34 a35 b36 a37 a38 a39 b40 a41 a42 a43 b44 a45 a46 a47 b48 a49 a50 a51 b52 a53 a54 a55 a56 a57 a58 a59 a60 a61 a62 a63 a64 a65 a66 a67 a68 a69 a70 a71 a72 a73 a74 a75 a76 a77 a78 a79 m84 m85 m86).bind fun q1 => (bif (!q1.1) then (some (0, 0, 0, 0, 0, 0, 0, 0, 0, 0, 0, 0, 0, 0, 0, 0, 0, 0, 0, 0, 0, 0, 0, 210, ())) else ((sample_Read_g K a0 a1 a2 a3 a4 a5 a6 a7 a8 a9 a10 a11 a12 a13 a14 a80 a81 a82 a83).bind fun q2 => (bif (q2.2.2.2.2.1 != 0) then (some (a57, a58, a59, a60, a61, a62, a63, a64, a65, a66, a67, a68, a69, a70, a71, a72, a73, a74, a75, a76, a77, a78, (bif (decide (4294967295 < (wi64 (a79 + 1)))) then 4294967295 else (wi64 (a79 + 1))), 130, ())) else ((state_Step_l0 K K 0 7 7 0 0 0 0 0 0 0 0 0 0 0 0 0 0 0 0 0 0 0 0 0 0 0 0 a57 a58 a59 a60 a61 a62 a63 a64 a65 a66 a67 a68 a69 a70 a71 a72 a73 a74 a75 a76 a77 a78 a79 a0 a1 a2 a3 a4 a5 a6 a7 a8 a9 a10 a11 a12 a13 a14 a15 a16 a17 a18 a19 a20 a21 a22 n23 n24 n25 a26 a27 a28 a29 a30 a31 b32 a33 a34 a35 b36 a37 a38 a39 b40 a41 a42 a43 b44 a45 a46 a47 b48 a49 a50 a51 b52 a53 a54 a55 a56 q2.1 q2.2.1 q2.2.2.1 q2.2.2.2.1 m84 m85 m86).bind fun q3 => (Sum.elim (fun q4 => let q4_1 := q4.2; let q4_2 := q4_1.2; let q4_3 := q4_2.2; let q4_4 := q4_3.2; let q4_5 := q4_4.2; let q4_6 := q4_5.2; let q4_7 := q4_6.2; let q4_8 := q4_7.2; let q4_9 := q4_8.2; let q4_10 := q4_9.2; let q4_11 := q4_10.2; let q4_12 := q4_11.2; let q4_13 := q4_12.2; let q4_14 := q4_13.2; let q4_15 := q4_14.2; let q4_16 := q4_15.2; let q4_17 := q4_16.2; let q4_18 := q4_17.2; let q4_19 := q4_18.2; let q4_20 := q4_19.2; let q4_21 := q4_20.2; let q4_22 := q4_21.2; let q4_23 := q4_22.2; let q4_24 := q4_23.2; let q4_25 := q4_24.2; let q4_26 := q4_25.2; let q4_27 := q4_26.2; let q4_28 := q4_27.2; let q4_29 := q4_28.2; let q4_30 := q4_29.2; let q4_31 := q4_30.2; let q4_32 := q4_31.2; let q4_33 := q4_32.2; let q4_34 := q4_33.2; let q4_35 := q4_34.2; let q4_36 := q4_35.2; let q4_37 := q4_36.2; let q4_38 := q4_37.2; let q4_39 := q4_38.2; let q4_40 := q4_39.2; let q4_41 := q4_40.2; let q4_42 := q4_41.2; let q4_43 := q4_42.2; let q4_44 := q4_43.2; let q4_45 := q4_44.2; (some (q4_23.1, q4_24.1, q4_25.1, q4_26.1, q4_27.1, q4_28.1, q4_29.1, q4_30.1, q4_31.1, q4_32.1, q4_33.1, q4_34.1, q4_35.1, q4_36.1, q4_37.1, q4_38.1, q4_39.1, q4_40.1, q4_41.1, q4_42.1, q4_43.1, (bif (decide (4294967295 < (wi64 (q4_44.1 + 1)))) then 4294967295 else (wi64 (q4_44.1 + 1))), q4_45.1, 0, ()))) (fun q5 => let q5_1 := q5.2; let q5_2 := q5_1.2; let q5_3 := q5_2.2; let q5_4 := q5_3.2; let q5_5 := q5_4.2; let q5_6 := q5_5.2; let q5_7 := q5_6.2; let q5_8 := q5_7.2; let q5_9 := q5_8.2; let q5_10 := q5_9.2; let q5_11 := q5_10.2; let q5_12 := q5_11.2; let q5_13 := q5_12.2; let q5_14 := q5_13.2; let q5_15 := q5_14.2; let q5_16 := q5_15.2; let q5_17 := q5_16.2; let q5_18 := q5_17.2; let q5_19 := q5_18.2; let q5_20 := q5_19.2; let q5_21 := q5_20.2; let q5_22 := q5_21.2; let q5_23 := q5_22.2; (some (q5_1.1, q5_2.1, q5_3.1, q5_4.1, q5_5.1, q5_6.1, q5_7.1, q5_8.1, q5_9.1, q5_10.1, q5_11.1, q5_12.1, q5_13.1, q5_14.1, q5_15.1, q5_16.1, q5_17.1, q5_18.1, q5_19.1, q5_20.1, q5_21.1, q5_22.1, q5_23.1, q5.1, ()))) q3))))))
noncomputable def state_Step_gu (K : Nat) (t : state_Step_h.T) : Option (Int × Int × Int × Int × Int × Int × Int × Int × Int × Int × Int × Int × Int × Int × Int × Int × Int × Int × Int × Int × Int × Int × Int × Int × Unit) :=
  let u1 := t.2
  let u2 := u1.2
  let u3 := u2.2
  let u4 := u3.2
  let u5 := u4.2
  let u6 := u5.2
  let u7 := u6.2
  let u8 := u7.2
  let u9 := u8.2
  let u10 := u9.2
  let u11 := u10.2
  let u12 := u11.2
  let u13 := u12.2
  let u14 := u13.2
  let u15 := u14.2
  let u16 := u15.2
  let u17 := u16.2
  let u18 := u17.2
  let u19 := u18.2
  let u20 := u19.2
  let u21 := u20.2
  let u22 := u21.2
  let u23 := u22.2
  let u24 := u23.2
  let u25 := u24.2
  let u26 := u25.2
  let u27 := u26.2
  let u28 := u27.2
  let u29 := u28.2
  let u30 := u29.2
  let u31 := u30.2
  let u32 := u31.2
  let u33 := u32.2
  let u34 := u33.2
  let u35 := u34.2
  let u36 := u35.2
  let u37 := u36.2
  let u38 := u37.2
  let u39 := u38.2
  let u40 := u39.2
  let u41 := u40.2
  let u42 := u41.2
  let u43 := u42.2
  let u44 := u43.2
  let u45 := u44.2
  let u46 := u45.2
  let u47 := u46.2
  let u48 := u47.2
  let u49 := u48.2
  let u50 := u49.2
  let u51 := u50.2
  let u52 := u51.2
  let u53 := u52.2
  let u54 := u53.2
  let u55 := u54.2
  let u56 := u55.2
  let u57 := u56.2
  let u58 := u57.2
  let u59 := u58.2
  let u60 := u59.2
  let u61 := u60.2
  let u62 := u61.2
  let u63 := u62.2
  let u64 := u63.2
  let u65 := u64.2
  let u66 := u65.2
  let u67 := u66.2
  let u68 := u67.2
  let u69 := u68.2
  let u70 := u69.2
  let u71 := u70.2
  let u72 := u71.2
  let u73 := u72.2
  let u74 := u73.2
  let u75 := u74.2
  let u76 := u75.2
  let u77 := u76.2
  let u78 := u77.2
  let u79 := u78.2
  let u80 := u79.2
  let u81 := u80.2
  let u82 := u81.2
  let u83 := u82.2
  let u84 := u83.2
  let u85 := u84.2
  let u86 := u85.2
  state_Step_g K t.1 u1.1 u2.1 u3.1 u4.1 u5.1 u6.1 u7.1 u8.1 u9.1 u10.1 u11.1 u12.1 u13.1 u14.1 u15.1 u16.1 u17.1 u18.1 u19.1 u20.1 u21.1 u22.1 u23.1 u24.1 u25.1 u26.1 u27.1 u28.1 u29.1 u30.1 u31.1 u32.1 u33.1 u34.1 u35.1 u36.1 u37.1 u38.1 u39.1 u40.1 u41.1 u42.1 u43.1 u44.1 u45.1 u46.1 u47.1 u48.1 u49.1 u50.1 u51.1 u52.1 u53.1 u54.1 u55.1 u56.1 u57.1 u58.1 u59.1 u60.1 u61.1 u62.1 u63.1 u64.1 u65.1 u66.1 u67.1 u68.1 u69.1 u70.1 u71.1 u72.1 u73.1 u74.1 u75.1 u76.1 u77.1 u78.1 u79.1 u80.1 u81.1 u82.1 u83.1 u84.1 u85.1 u86.1
noncomputable def state_Step_o (K : Nat) : FO := fnFO state_Step_h state_Step_r fun t => state_Step_gu K t
theorem state_Step_ok (K : Nat) : FOok Tryz.prog 10 (state_Step_o K) := fnE Bs (state_Step_n K) state_Step_i [state_Step_l0E K] (state_Step_k K) state_Step_j 9 Tryz.func10 fun t => by kernel_rfl
end Go.Proofs.YtjmbhhinmbgneaaGreat
