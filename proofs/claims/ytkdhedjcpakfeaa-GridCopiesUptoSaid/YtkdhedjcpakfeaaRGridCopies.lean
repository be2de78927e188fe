/-
  GridCopies: for every input whose values are together of bulk at most 1048576 the law returns true, and each argument reads afterwards as it read before.
-/
import Derived.Test.YtkdhedjcpakfeaaRows
import Derived.Test.YtkdhedjcpakfeaaSyUpto
import Derived.Test.YtkdhedjcpakfeaaX
namespace Go.Proofs.Ytkdhedjcpakfeaa
open Go.Sy
namespace gridCopies
open Go.ChangeShapes Go.WideShapes Go.RowKit Go.ChangeAt
theorem own : ownKnob Try.prog.godebug = none := by kernel_rfl
theorem one_le {H : Type} (d : DataW H) : 1 ≤ Rows.uptoBulk d := by
  cases d with
  | lit l => cases l <;> simp [Rows.uptoBulk]
  | nil => simp [Rows.uptoBulk]
  | ptr d => simp [Rows.uptoBulk]
  | slice elems spare => simp [Rows.uptoBulk]
  | agg parts => simp [Rows.uptoBulk]
  | iface t d => simp [Rows.uptoBulk]
  | map entries => simp [Rows.uptoBulk]
  | held h => simp [Rows.uptoBulk]
theorem part_le {H : Type} {d : DataW H} {l : List (DataW H)} (h : d ∈ l) : Rows.uptoBulk d ≤ Rows.uptoBulkAll l := by
  induction l with
  | nil => cases h
  | cons x r ih =>
    simp only [Rows.uptoBulkAll]
    cases List.mem_cons.1 h with
    | inl e => subst e; omega
    | inr e => have := ih e; omega
theorem length_le {H : Type} (l : List (DataW H)) : l.length ≤ Rows.uptoBulkAll l := by
  induction l with
  | nil => simp [Rows.uptoBulkAll]
  | cons x r ih => have := one_le x; simp only [Rows.uptoBulkAll, List.length_cons]; omega
/-- What is read is of so much bulk at most. -/
def Bk {H : Type} (d : DataW H) : Prop := Rows.uptoBulk d ≤ 1048576
theorem bk_slice {H : Type} (e s : List (DataW H)) (h : Bk (.slice e s)) : e.length ≤ 1048576 := by
  have h1 := length_le e
  unfold Bk at h
  simp only [Rows.uptoBulk] at h
  omega
theorem bk_agg {H : Type} (l : List (DataW H)) (h : Bk (.agg l)) : ∀ d ∈ l, Bk d := by
  intro d hd
  have h1 := part_le hd
  unfold Bk at h ⊢
  simp only [Rows.uptoBulk] at h
  omega
theorem bk_all {H : Type} (l : List (DataW H)) (h : Rows.uptoSmall H l = true) : ∀ d ∈ l, Bk d := by
  intro d hd
  have h1 := part_le hd
  have h2 : Rows.uptoBulkAll l ≤ 1048576 := of_decide_eq_true h
  unfold Bk
  omega
theorem call {w : World} {vals : List Value} (hp : PFits w rheostatlaw11_GridCopies_ps vals) (hl : LenVs 1048576 rheostatlaw11_GridCopies_ps vals) :
    Calls Try.prog 6 vals.toArray w fun e w' => e = .returned (.bool true) ∧ RowKit.Below w.heap.size w w' :=
  call_of_upto (rheostatlaw11_GridCopies_t3 20000) (rheostatlaw11_GridCopies_i3 20000) (draws (rheostatlaw11_GridCopies_t3 20000)) 0 Try.func6 (by kernel_rfl) (by kernel_rfl) outBool_true (fun t ht hl => (rheostatlaw11_GridCopies_q 20000 t).trans (GridCopies_ok _ _ _ _ _ _ hl.1 hl.2.1 hl.2.2.1)) hp hl
set_option maxRecDepth 100000 in
theorem lifted (os : Os) (started : os.Started) (H : Type) (enc : TypeId × Value → H) (F : Stop.Interp) :
    ReturnsInHanded {} Try.checked os 6 .any ((Rows.OpenSpec.upto Rows.gridCopiesSpec).pre6 enc Try.prog Try.f6 Rows.gridCopiesUptoRow.domain false) (((Rows.OpenSpec.upto Rows.gridCopiesSpec).at F).post enc Try.prog Try.f6 false true false false) :=
  lifted_upto (C := Try.checked) (S := Rows.OpenSpec.upto Rows.gridCopiesSpec) (s := Rows.gridCopiesSpec) (k := Rows.uptoSmall) rfl rfl rfl own started (by kernel_rfl) Try.func6
    (OpenSpec.witness (enc := enc) (C := Try.checked) (s := Rows.OpenSpec.upto Rows.gridCopiesSpec) (k := Rows.uptoSmall) rfl false ⟨#[], #[.agg #[.slice none 0 0, .slice none 0 0, .slice none 0 0]], []⟩ 40 (by kernel_rfl) (by kernel_rfl) (by kernel_rfl)
      (x := ([.agg [.nil, .nil, .nil]], [], [])) (by kernel_rfl) rfl (by kernel_rfl))
    (by kernel_rfl) (ts := [24]) rfl (of_decide_eq_true (by kernel_rfl)) (tb := 4) rfl (by kernel_rfl) rfl
    (fun H ds hl => match ds, hl with | [d0], _ => rfl) (n := 20) (ps := rheostatlaw11_GridCopies_ps) (by kernel_rfl) Bk bk_slice bk_agg bk_all (fun W vals hp hl => call hp hl)
theorem proved : Rows.GridCopiesUptoSaid :=
  OpenClaim.holds_of_cond 6 Try.f6 rfl rfl rfl rfl rfl rfl rfl ⟨rfl, rfl, rfl, rfl, rfl⟩ rfl rfl rfl rfl rfl (by kernel_rfl) Try.func6 (by kernel_rfl)
    (of_decide_eq_true (by kernel_rfl)) (by unfold Func.isWrapper; first | (rw [if_pos (by decide +kernel)]; kernel_rfl) | (rw [if_neg (by decide +kernel)]; exact ⟨rfl, rfl⟩))
    (fun os started H enc _ F => lifted os started H enc F)
#print axioms proved
end gridCopies
end Go.Proofs.Ytkdhedjcpakfeaa
