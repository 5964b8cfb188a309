/- Contracts of the functions that compare and copy slices of slices of numbers. No condition. -/
import Derived.Test.YtmfcagcanhmdbaaIntsC
namespace Go.Proofs.Ytmfcagcanhmdbaa
open Go.RowKit

theorem Try.infoIntS : (Try.prog.info? 59).map (fun i => (i.zero, i.size, i.bytes)) = some (some (.slice none 0 0), 1, 24) := by kernel_rfl

end Go.Proofs.Ytmfcagcanhmdbaa