/- Contracts of the functions that compare and copy slices of slices of numbers. No condition. -/
import Derived.Test.YtbfmeiooeaaibaaGreatIntsC
namespace Go.Proofs.YtbfmeiooeaaibaaGreat
open Go.RowKit

theorem Tryz.infoIntS : (Tryz.prog.info? 35).map (fun i => (i.zero, i.size, i.bytes)) = some (some (.slice none 0 0), 1, 24) := by kernel_rfl

end Go.Proofs.YtbfmeiooeaaibaaGreat