/- The statement on FnExactMemoValues, from its lifted form. No condition. -/
import Derived.Test.YtkfaihfgjiahdaaValsRowA
namespace Go.Proofs.Ytkfaihfgjiahdaa.fnExactMemoValues
open Go.ChangeShapes Go.WideShapes Go.ChangeAt Go.RowKit

theorem over : Rows.fnExactMemoValuesRow.holds Try.pinned (OpenSpec.ofChange Rows.fnExactMemoValuesSpec) :=
  OpenClaim.holds_of_wide 7 Try.f7 rfl rfl rfl rfl rfl rfl rfl ⟨rfl, rfl, rfl, rfl, rfl⟩ rfl rfl rfl rfl rfl (by kernel_rfl) Try.func7 (by kernel_rfl)
    (of_decide_eq_true (by kernel_rfl)) (by unfold Func.isWrapper; first | (rw [if_pos (by decide +kernel)]; kernel_rfl) | (rw [if_neg (by decide +kernel)]; exact ⟨rfl, rfl⟩))
    (fun os started H enc _ => lifted os started H enc)

/-- The statement. -/
theorem proved : Rows.FnExactMemoValuesSaid := over
#print axioms proved
end Go.Proofs.Ytkfaihfgjiahdaa.fnExactMemoValues
