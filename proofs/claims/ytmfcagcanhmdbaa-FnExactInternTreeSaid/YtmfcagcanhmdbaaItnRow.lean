/- The statement on FnExactInternTree, from its lifted form. No condition. -/
import Derived.Test.YtmfcagcanhmdbaaItnRowA
namespace Go.Proofs.Ytmfcagcanhmdbaa.fnExactInternTree
open Go.ChangeShapes Go.WideShapes Go.ChangeAt Go.RowKit

theorem over : Rows.fnExactInternTreeRow.holds Try.pinned (OpenSpec.ofChange Rows.fnExactInternTreeSpec) :=
  OpenClaim.holds_of_wide 3 Try.f3 rfl rfl rfl rfl rfl rfl rfl ⟨rfl, rfl, rfl, rfl, rfl⟩ rfl rfl rfl rfl rfl (by kernel_rfl) Try.func3 (by kernel_rfl)
    (of_decide_eq_true (by kernel_rfl)) (by unfold Func.isWrapper; first | (rw [if_pos (by decide +kernel)]; kernel_rfl) | (rw [if_neg (by decide +kernel)]; exact ⟨rfl, rfl⟩))
    (fun os started H enc _ => lifted os started H enc)

/-- The statement. -/
theorem proved : Rows.FnExactInternTreeSaid := over
#print axioms proved
end Go.Proofs.Ytmfcagcanhmdbaa.fnExactInternTree
