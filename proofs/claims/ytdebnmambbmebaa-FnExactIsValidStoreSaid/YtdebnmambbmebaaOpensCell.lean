/- What the rows read at the types of the statements' arguments is what the walks read. Made by mk_opens.py. No condition. -/
import Derived.Test.YtdebnmambbmebaaFamCell
namespace Go.Proofs.Ytdebnmambbmebaa

theorem opensCell : Opens GCell Try.prog 123 := by
  refine opens_struct 3 Try.underlying123 rfl (by kernel_rfl) ?_
  refine (seg_cons ?_ rfl (seg_cons ?_ rfl (seg_one ?_ rfl)))
  · exact (opens_string Try.underlying9 (by kernel_rfl))
  · exact (opens_int Try.underlying3 (by kernel_rfl))
  · exact (opens_slice Try.underlying25 (by kernel_rfl) (opens_int Try.underlying3 (by kernel_rfl)) (by kernel_rfl))

theorem opensStore : Opens GStore Try.prog 34 := by
  refine opens_struct 1 Try.underlying34 rfl (by kernel_rfl) ?_
  refine (seg_one ?_ rfl)
  · exact (opens_slice Try.underlying32 (by kernel_rfl) opensCell (by kernel_rfl))

end Go.Proofs.Ytdebnmambbmebaa
