/- What the rows read at the types of the statements' arguments is what the walks read. Made by mk_opens.py. No condition. -/
import Derived.Test.YtmfcagcanhmdbaaFamCell
namespace Go.Proofs.Ytmfcagcanhmdbaa

theorem opensCell : Opens GCell Try.prog 96 := by
  refine opens_struct 3 Try.underlying96 rfl (by kernel_rfl) ?_
  refine (seg_cons ?_ rfl (seg_cons ?_ rfl (seg_one ?_ rfl)))
  · exact (opens_string Try.underlying9 (by kernel_rfl))
  · exact (opens_int Try.underlying3 (by kernel_rfl))
  · exact (opens_slice Try.underlying59 (by kernel_rfl) (opens_int Try.underlying3 (by kernel_rfl)) (by kernel_rfl))

theorem opensStore : Opens GStore Try.prog 24 := by
  refine opens_struct 1 Try.underlying24 rfl (by kernel_rfl) ?_
  refine (seg_one ?_ rfl)
  · exact (opens_slice Try.underlying22 (by kernel_rfl) opensCell (by kernel_rfl))

end Go.Proofs.Ytmfcagcanhmdbaa
