/- The statement on FnExactFindEntry, from its lifted form. No condition. -/
import Derived.Test.YtkfaihfgjiahdaaFindRowA
namespace Go.Proofs.Ytkfaihfgjiahdaa.fnExactFindEntry
open Go.ChangeShapes Go.WideShapes Go.ChangeAt Go.RowKit

theorem over : Rows.fnExactFindEntryRow.holds Try.pinned (OpenSpec.ofChange Rows.fnExactFindEntrySpec) :=
  OpenClaim.holds_of_wide 8 Try.f8 rfl rfl rfl rfl rfl rfl rfl ⟨rfl, rfl, rfl, rfl, rfl⟩ rfl rfl rfl rfl rfl (by kernel_rfl) Try.func8 (by kernel_rfl)
    (of_decide_eq_true (by kernel_rfl)) (by unfold Func.isWrapper; first | (rw [if_pos (by decide +kernel)]; kernel_rfl) | (rw [if_neg (by decide +kernel)]; exact ⟨rfl, rfl⟩))
    (fun os started H enc _ => lifted os started H enc)

/-- The statement. -/
theorem proved : Rows.FnExactFindEntrySaid := over
#print axioms proved
end Go.Proofs.Ytkfaihfgjiahdaa.fnExactFindEntry
