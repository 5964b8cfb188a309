/- Contracts of the functions that compare and copy slices of slices of numbers. No condition. -/
import Derived.Test.YtmdiabjaggadjaaGreatIntsC
namespace Go.Proofs.YtmdiabjaggadjaaGreat
open Go.RowKit

theorem Tryz.infoIntS : (Tryz.prog.info? 104).map (fun i => (i.zero, i.size, i.bytes)) = some (some (.slice none 0 0), 1, 24) := by kernel_rfl

end Go.Proofs.YtmdiabjaggadjaaGreat