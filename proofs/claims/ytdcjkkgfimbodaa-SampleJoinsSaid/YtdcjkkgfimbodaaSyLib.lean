/-
  Short names and small laws for the printed functions.
-/
import Derived.Test.YtdcjkkgfimbodaaSyRow
import Derived.Test.YtdcjkkgfimbodaaSyExt
namespace Go.Sy
def wi64 (x : Int) : Int := IntKind.wrap .i64 x
def wi32 (x : Int) : Int := IntKind.wrap .i32 x
def wi16 (x : Int) : Int := IntKind.wrap .i16 x
def wi8 (x : Int) : Int := IntKind.wrap .i8 x
def wu64 (x : Int) : Int := IntKind.wrap .u64 x
def wu32 (x : Int) : Int := IntKind.wrap .u32 x
def wu16 (x : Int) : Int := IntKind.wrap .u16 x
def wu8 (x : Int) : Int := IntKind.wrap .u8 x

def bodyOf (fn : Func) : Code := fn.body.getD .skip

def allOwn (b : Bool) : List (Bool × Bool × List Cd) → Bool
  | [] => true
  | m :: r => (m.1 == b) && allOwn b r

theorem allOwn_ok (b : Bool) : ∀ {l : List (Bool × Bool × List Cd)}, allOwn b l = true → ∀ m ∈ l, m.1 = b
  | [], _, m, hm => by cases hm
  | x :: r, h, m, hm => by
    simp only [allOwn, Bool.and_eq_true, beq_iff_eq] at h
    rcases List.mem_cons.1 hm with rfl | hm
    · exact h.1
    · exact allOwn_ok b h.2 m hm

/-! ### Numbers that wrap -/
theorem wi64_def (x : Int) : wi64 x = if x % 18446744073709551616 ≥ 9223372036854775808 then x % 18446744073709551616 - 18446744073709551616 else x % 18446744073709551616 := by
  simp [wi64, IntKind.wrap, IntKind.bits, IntKind.signed]

theorem wu64_def (x : Int) : wu64 x = x % 18446744073709551616 := by
  simp [wu64, IntKind.wrap, IntKind.bits, IntKind.signed]

theorem wi64_id {x : Int} (h : -9223372036854775808 ≤ x) (h' : x < 9223372036854775808) : wi64 x = x := by
  rw [wi64_def]
  split <;> omega

theorem wi64_range (x : Int) : -9223372036854775808 ≤ wi64 x ∧ wi64 x < 9223372036854775808 := by
  rw [wi64_def]
  split <;> omega

theorem wu64_id {x : Int} (h : 0 ≤ x) (h' : x < 18446744073709551616) : wu64 x = x := by
  rw [wu64_def]
  omega

theorem wf_i64 {n : Int} (h : (Lit.int .i64 n).wf = true) : -9223372036854775808 ≤ n ∧ n < 9223372036854775808 := by
  simp only [Lit.wf, Bool.and_eq_true, decide_eq_true_eq] at h
  have e1 : IntKind.min .i64 = -9223372036854775808 := by decide
  have e2 : IntKind.max .i64 = 9223372036854775807 := by decide
  rw [e1, e2] at h
  omega
end Go.Sy
