/- The statement on FnExactSourceOf, from its lifted form. No condition. -/
import Derived.Test.YtbfmeiooeaaibaaGreatSrcRowA
namespace Go.Proofs.YtbfmeiooeaaibaaGreat.fnExactSourceOf
open Go.ChangeShapes Go.WideShapes Go.ChangeAt Go.RowKit

theorem over : Rows.fnExactSourceOfRow.holds Tryz.pinned (OpenSpec.ofChange Rows.fnExactSourceOfSpec) :=
  OpenClaim.holds_of_wide 3 Tryz.f3 rfl rfl rfl rfl rfl rfl rfl ⟨rfl, rfl, rfl, rfl, rfl⟩ rfl rfl rfl rfl rfl (by kernel_rfl) Tryz.func3 (by kernel_rfl)
    (of_decide_eq_true (by kernel_rfl)) (by unfold Func.isWrapper; first | (rw [if_pos (by decide +kernel)]; kernel_rfl) | (rw [if_neg (by decide +kernel)]; exact ⟨rfl, rfl⟩))
    (fun os started H enc _ => lifted os started H enc)

/-- The statement. -/
theorem proved : Rows.FnExactSourceOfSaid := over
#print axioms proved
end Go.Proofs.YtbfmeiooeaaibaaGreat.fnExactSourceOf
