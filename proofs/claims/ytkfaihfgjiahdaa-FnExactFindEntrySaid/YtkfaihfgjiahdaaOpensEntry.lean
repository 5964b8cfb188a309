/- What the rows read at the types of the statements' arguments is what the walks read. Made by mk_opens.py. No condition. -/
import Derived.Test.YtkfaihfgjiahdaaFamEntry
namespace Go.Proofs.Ytkfaihfgjiahdaa

theorem opensInstance : Opens GInstance Try.prog 68 := by
  refine opens_struct 2 Try.underlying68 rfl (by kernel_rfl) ?_
  refine (seg_cons ?_ rfl (seg_one ?_ rfl))
  · exact (opens_int Try.underlying3 (by kernel_rfl))
  · exact (opens_string Try.underlying9 (by kernel_rfl))

theorem opensReading : Opens GReading Try.prog 139 := by
  refine opens_struct 4 Try.underlying139 rfl (by kernel_rfl) ?_
  refine (seg_cons ?_ rfl (seg_cons ?_ rfl (seg_one ?_ rfl)))
  · exact opensInstance
  · exact (opens_int Try.underlying3 (by kernel_rfl))
  · exact (opens_string Try.underlying9 (by kernel_rfl))

theorem opensEntry : Opens GEntry Try.prog 124 := by
  refine opens_struct 9 Try.underlying124 rfl (by kernel_rfl) ?_
  refine (seg_cons ?_ rfl (seg_cons ?_ rfl (seg_cons ?_ rfl (seg_cons ?_ rfl (seg_cons ?_ rfl (seg_cons ?_ rfl (seg_cons ?_ rfl (seg_one ?_ rfl))))))))
  · exact opensInstance
  · exact (opens_int Try.underlying3 (by kernel_rfl))
  · exact (opens_int Try.underlying3 (by kernel_rfl))
  · exact (opens_int Try.underlying3 (by kernel_rfl))
  · exact (opens_string Try.underlying9 (by kernel_rfl))
  · exact (opens_slice Try.underlying43 (by kernel_rfl) (opens_int Try.underlying3 (by kernel_rfl)) (by kernel_rfl))
  · exact (opens_slice Try.underlying43 (by kernel_rfl) (opens_int Try.underlying3 (by kernel_rfl)) (by kernel_rfl))
  · exact (opens_slice Try.underlying122 (by kernel_rfl) opensReading (by kernel_rfl))

theorem opensMemo : Opens GMemo Try.prog 50 := by
  refine opens_struct 2 Try.underlying50 rfl (by kernel_rfl) ?_
  refine (seg_cons ?_ rfl (seg_one ?_ rfl))
  · exact (opens_slice Try.underlying47 (by kernel_rfl) opensEntry (by kernel_rfl))
  · exact (opens_slice Try.underlying48 (by kernel_rfl) opensInstance (by kernel_rfl))

end Go.Proofs.Ytkfaihfgjiahdaa
