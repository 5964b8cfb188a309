/- What the rows read at the types of the statements' arguments is what the walks read. Made by mk_opens.py. No condition. -/
import Derived.Test.YtmdiabjaggadjaaGreatFamEntry
namespace Go.Proofs.YtmdiabjaggadjaaGreat

theorem opensInstance : Opens GInstance Tryz.prog 108 := by
  refine opens_struct 2 Tryz.underlying108 rfl (by kernel_rfl) ?_
  refine (seg_cons ?_ rfl (seg_one ?_ rfl))
  · exact (opens_int Tryz.underlying3 (by kernel_rfl))
  · exact (opens_string Tryz.underlying9 (by kernel_rfl))

theorem opensReading : Opens GReading Tryz.prog 175 := by
  refine opens_struct 4 Tryz.underlying175 rfl (by kernel_rfl) ?_
  refine (seg_cons ?_ rfl (seg_cons ?_ rfl (seg_one ?_ rfl)))
  · exact opensInstance
  · exact (opens_int Tryz.underlying3 (by kernel_rfl))
  · exact (opens_string Tryz.underlying9 (by kernel_rfl))

theorem opensEntry : Opens GEntry Tryz.prog 111 := by
  refine opens_struct 9 Tryz.underlying111 rfl (by kernel_rfl) ?_
  refine (seg_cons ?_ rfl (seg_cons ?_ rfl (seg_cons ?_ rfl (seg_cons ?_ rfl (seg_cons ?_ rfl (seg_cons ?_ rfl (seg_cons ?_ rfl (seg_one ?_ rfl))))))))
  · exact opensInstance
  · exact (opens_int Tryz.underlying3 (by kernel_rfl))
  · exact (opens_int Tryz.underlying3 (by kernel_rfl))
  · exact (opens_int Tryz.underlying3 (by kernel_rfl))
  · exact (opens_string Tryz.underlying9 (by kernel_rfl))
  · exact (opens_slice Tryz.underlying104 (by kernel_rfl) (opens_int Tryz.underlying3 (by kernel_rfl)) (by kernel_rfl))
  · exact (opens_slice Tryz.underlying104 (by kernel_rfl) (opens_int Tryz.underlying3 (by kernel_rfl)) (by kernel_rfl))
  · exact (opens_slice Tryz.underlying109 (by kernel_rfl) opensReading (by kernel_rfl))

theorem opensMemo : Opens GMemo Tryz.prog 32 := by
  refine opens_struct 2 Tryz.underlying32 rfl (by kernel_rfl) ?_
  refine (seg_cons ?_ rfl (seg_one ?_ rfl))
  · exact (opens_slice Tryz.underlying29 (by kernel_rfl) opensEntry (by kernel_rfl))
  · exact (opens_slice Tryz.underlying30 (by kernel_rfl) opensInstance (by kernel_rfl))

end Go.Proofs.YtmdiabjaggadjaaGreat
