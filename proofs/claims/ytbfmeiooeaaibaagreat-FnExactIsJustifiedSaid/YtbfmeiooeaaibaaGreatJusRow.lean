/- The statement on FnExactIsJustified, from its lifted form. No condition. -/
import Derived.Test.YtbfmeiooeaaibaaGreatXJusL
namespace Go.Proofs.YtbfmeiooeaaibaaGreat.fnExactIsJustified
open Go.ChangeShapes Go.WideShapes Go.ChangeAt Go.RowKit

theorem over : Rows.fnExactIsJustifiedRow.holds Tryz.pinned (OpenSpec.ofChange Rows.fnExactIsJustifiedSpec) :=
  OpenClaim.holds_of_wide 4 Tryz.f4 rfl rfl rfl rfl rfl rfl rfl ⟨rfl, rfl, rfl, rfl, rfl⟩ rfl rfl rfl rfl rfl (by kernel_rfl) Tryz.func4 (by kernel_rfl)
    (of_decide_eq_true (by kernel_rfl)) (by unfold Func.isWrapper; first | (rw [if_pos (by decide +kernel)]; kernel_rfl) | (rw [if_neg (by decide +kernel)]; exact ⟨rfl, rfl⟩))
    (fun os started H enc _ => lifted os started H enc)

/-- The statement. -/
theorem proved : Rows.FnExactIsJustifiedSaid := over
#print axioms proved
end Go.Proofs.YtbfmeiooeaaibaaGreat.fnExactIsJustified
