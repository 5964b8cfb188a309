/- What the rows read at the types of the statements' arguments is what the walks read. Made by mk_opens.py. No condition. -/
import Derived.Test.YtmfcagcanhmdbaaFamTree
import Derived.Test.YtmfcagcanhmdbaaOpens
namespace Go.Proofs.Ytmfcagcanhmdbaa

theorem opensNode : Opens GNode Try.prog 98 := by
  refine opens_struct 6 Try.underlying98 rfl (by kernel_rfl) ?_
  refine (seg_cons ?_ rfl (seg_cons ?_ rfl (seg_cons ?_ rfl (seg_cons ?_ rfl (seg_cons ?_ rfl (seg_one ?_ rfl))))))
  · exact (opens_int Try.underlying3 (by kernel_rfl))
  · exact (opens_int Try.underlying3 (by kernel_rfl))
  · exact (opens_int Try.underlying3 (by kernel_rfl))
  · exact (opens_int Try.underlying3 (by kernel_rfl))
  · exact (opens_string Try.underlying9 (by kernel_rfl))
  · exact (opens_slice Try.underlying59 (by kernel_rfl) (opens_int Try.underlying3 (by kernel_rfl)) (by kernel_rfl))

theorem opensTree : Opens GTree Try.prog 27 := by
  refine opens_struct 1 Try.underlying27 rfl (by kernel_rfl) ?_
  refine (seg_one ?_ rfl)
  · exact (opens_slice Try.underlying25 (by kernel_rfl) opensNode (by kernel_rfl))

end Go.Proofs.Ytmfcagcanhmdbaa
