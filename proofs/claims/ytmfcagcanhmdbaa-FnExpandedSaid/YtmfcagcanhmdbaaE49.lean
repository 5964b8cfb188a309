/- The statement on FnExpanded, from its lifted form. No condition. -/
import Derived.Test.YtmfcagcanhmdbaaE48
namespace Go.Proofs.Ytmfcagcanhmdbaa.fnExpanded
open Go.ChangeShapes Go.WideShapes Go.ChangeAt Go.RowKit

theorem over : Rows.fnExpandedRow.holds Try.pinned (OpenSpec.ofChange Rows.fnExpandedSpec) :=
 OpenClaim.holds_of_wide 4 Try.f4 rfl rfl rfl rfl rfl rfl rfl ⟨rfl, rfl, rfl, rfl, rfl⟩ rfl rfl rfl rfl rfl (by kernel_rfl) Try.func4 (by kernel_rfl)
  (of_decide_eq_true (by kernel_rfl)) (by unfold Func.isWrapper; first | (rw [if_pos (by decide +kernel)]; kernel_rfl) | (rw [if_neg (by decide +kernel)]; exact ⟨rfl, rfl⟩))
  (fun os started H enc _ => lifted os started H enc)

theorem proved : Rows.FnExpandedSaid := over
#print axioms proved
end Go.Proofs.Ytmfcagcanhmdbaa.fnExpanded
