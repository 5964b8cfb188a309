/- The statement on FnExactExpandCell, from its lifted form. No condition. -/
import Derived.Test.YtadoalpcakninaaExpRowA
namespace Go.Proofs.Ytadoalpcakninaa.fnExactExpandCell
open Go.ChangeShapes Go.WideShapes Go.ChangeAt Go.RowKit

theorem over : Rows.fnExactExpandCellRow.holds Try.pinned (OpenSpec.ofChange Rows.fnExactExpandCellSpec) :=
  OpenClaim.holds_of_wide 3 Try.f3 rfl rfl rfl rfl rfl rfl rfl ⟨rfl, rfl, rfl, rfl, rfl⟩ rfl rfl rfl rfl rfl (by kernel_rfl) Try.func3 (by kernel_rfl)
    (of_decide_eq_true (by kernel_rfl)) (by unfold Func.isWrapper; first | (rw [if_pos (by decide +kernel)]; kernel_rfl) | (rw [if_neg (by decide +kernel)]; exact ⟨rfl, rfl⟩))
    (fun os started H enc _ => lifted os started H enc)

/-- The statement. -/
theorem proved : Rows.FnExactExpandCellSaid := over
#print axioms proved
end Go.Proofs.Ytadoalpcakninaa.fnExactExpandCell
