/- The statement on FnExactSharedSize, from its lifted form. No condition. -/
import Derived.Test.YtkfaihfgjiahdaaSharedRowA
namespace Go.Proofs.Ytkfaihfgjiahdaa.fnExactSharedSize
open Go.ChangeShapes Go.WideShapes Go.ChangeAt Go.RowKit

theorem over : Rows.fnExactSharedSizeRow.holds Try.pinned (OpenSpec.ofChange Rows.fnExactSharedSizeSpec) :=
  OpenClaim.holds_of_wide 4 Try.f4 rfl rfl rfl rfl rfl rfl rfl ⟨rfl, rfl, rfl, rfl, rfl⟩ rfl rfl rfl rfl rfl (by kernel_rfl) Try.func4 (by kernel_rfl)
    (of_decide_eq_true (by kernel_rfl)) (by unfold Func.isWrapper; first | (rw [if_pos (by decide +kernel)]; kernel_rfl) | (rw [if_neg (by decide +kernel)]; exact ⟨rfl, rfl⟩))
    (fun os started H enc _ => lifted os started H enc)

/-- The statement. -/
theorem proved : Rows.FnExactSharedSizeSaid := over
#print axioms proved
end Go.Proofs.Ytkfaihfgjiahdaa.fnExactSharedSize
