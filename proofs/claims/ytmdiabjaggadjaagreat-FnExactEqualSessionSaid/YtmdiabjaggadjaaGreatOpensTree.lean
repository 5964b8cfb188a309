/- What the rows read at the types of the statements' arguments is what the walks read. Made by mk_opens.py. No condition. -/
import Derived.Test.YtmdiabjaggadjaaGreatSessBase
import Derived.Test.YtmdiabjaggadjaaGreatOpens
namespace Go.Proofs.YtmdiabjaggadjaaGreat

theorem opensNode : Opens GNode Tryz.prog 106 := by
  refine opens_struct 6 Tryz.underlying106 rfl (by kernel_rfl) ?_
  refine (seg_cons ?_ rfl (seg_cons ?_ rfl (seg_cons ?_ rfl (seg_cons ?_ rfl (seg_cons ?_ rfl (seg_one ?_ rfl))))))
  · exact (opens_int Tryz.underlying3 (by kernel_rfl))
  · exact (opens_int Tryz.underlying3 (by kernel_rfl))
  · exact (opens_int Tryz.underlying3 (by kernel_rfl))
  · exact (opens_int Tryz.underlying3 (by kernel_rfl))
  · exact (opens_string Tryz.underlying9 (by kernel_rfl))
  · exact (opens_slice Tryz.underlying104 (by kernel_rfl) (opens_int Tryz.underlying3 (by kernel_rfl)) (by kernel_rfl))

theorem opensTree : Opens GTree Tryz.prog 28 := by
  refine opens_struct 1 Tryz.underlying28 rfl (by kernel_rfl) ?_
  refine (seg_one ?_ rfl)
  · exact (opens_slice Tryz.underlying26 (by kernel_rfl) opensNode (by kernel_rfl))

end Go.Proofs.YtmdiabjaggadjaaGreat
