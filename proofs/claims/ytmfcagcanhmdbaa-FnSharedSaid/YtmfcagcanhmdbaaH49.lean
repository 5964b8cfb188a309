/- The statement on FnShared, from its lifted form. No condition. -/
import Derived.Test.YtmfcagcanhmdbaaH48
namespace Go.Proofs.Ytmfcagcanhmdbaa.fnShared
open Go.ChangeShapes Go.WideShapes Go.ChangeAt Go.RowKit

theorem over : Rows.fnSharedRow.holds Try.pinned (OpenSpec.ofChange Rows.fnSharedSpec) :=
 OpenClaim.holds_of_wide 5 Try.f5 rfl rfl rfl rfl rfl rfl rfl ⟨rfl, rfl, rfl, rfl, rfl⟩ rfl rfl rfl rfl rfl (by kernel_rfl) Try.func5 (by kernel_rfl)
  (of_decide_eq_true (by kernel_rfl)) (by unfold Func.isWrapper; first | (rw [if_pos (by decide +kernel)]; kernel_rfl) | (rw [if_neg (by decide +kernel)]; exact ⟨rfl, rfl⟩))
  (fun os started H enc _ => lifted os started H enc)

theorem proved : Rows.FnSharedSaid := over
#print axioms proved
end Go.Proofs.Ytmfcagcanhmdbaa.fnShared
