/- What the rows read at the types of the statements' arguments is what the walks read. Made by mk_opens.py. No condition. -/
import Derived.Test.YtdebnmambbmebaaFamEntry
namespace Go.Proofs.Ytdebnmambbmebaa

theorem opensInstance : Opens GInstance Try.prog 44 := by
  refine opens_struct 2 Try.underlying44 rfl (by kernel_rfl) ?_
  refine (seg_cons ?_ rfl (seg_one ?_ rfl))
  · exact (opens_int Try.underlying3 (by kernel_rfl))
  · exact (opens_string Try.underlying9 (by kernel_rfl))

theorem opensReading : Opens GReading Try.prog 131 := by
  refine opens_struct 4 Try.underlying131 rfl (by kernel_rfl) ?_
  refine (seg_cons ?_ rfl (seg_cons ?_ rfl (seg_one ?_ rfl)))
  · exact opensInstance
  · exact (opens_int Try.underlying3 (by kernel_rfl))
  · exact (opens_string Try.underlying9 (by kernel_rfl))

theorem opensEntry : Opens GEntry Try.prog 47 := by
  refine opens_struct 9 Try.underlying47 rfl (by kernel_rfl) ?_
  refine (seg_cons ?_ rfl (seg_cons ?_ rfl (seg_cons ?_ rfl (seg_cons ?_ rfl (seg_cons ?_ rfl (seg_cons ?_ rfl (seg_cons ?_ rfl (seg_one ?_ rfl))))))))
  · exact opensInstance
  · exact (opens_int Try.underlying3 (by kernel_rfl))
  · exact (opens_int Try.underlying3 (by kernel_rfl))
  · exact (opens_int Try.underlying3 (by kernel_rfl))
  · exact (opens_string Try.underlying9 (by kernel_rfl))
  · exact (opens_slice Try.underlying25 (by kernel_rfl) (opens_int Try.underlying3 (by kernel_rfl)) (by kernel_rfl))
  · exact (opens_slice Try.underlying25 (by kernel_rfl) (opens_int Try.underlying3 (by kernel_rfl)) (by kernel_rfl))
  · exact (opens_slice Try.underlying45 (by kernel_rfl) opensReading (by kernel_rfl))

theorem opensMemo : Opens GMemo Try.prog 66 := by
  refine opens_struct 2 Try.underlying66 rfl (by kernel_rfl) ?_
  refine (seg_cons ?_ rfl (seg_one ?_ rfl))
  · exact (opens_slice Try.underlying63 (by kernel_rfl) opensEntry (by kernel_rfl))
  · exact (opens_slice Try.underlying64 (by kernel_rfl) opensInstance (by kernel_rfl))

end Go.Proofs.Ytdebnmambbmebaa
