/- The tree of a cell: the reference's. No condition. -/
import Derived.Test.YtmfcagcanhmdbaaH10
import Derived.Test.YtmfcagcanhmdbaaH18
namespace Go.Proofs.Ytmfcagcanhmdbaa
open Go.RowKit
set_option linter.unusedVariables false
set_option linter.unusedSimpArgs false

theorem Try.infoTreeC : (Try.prog.info? 38).map (fun i => (i.zero, i.size, i.bytes)) = some (some (.agg #[.slice none 0 0]), 1, 24) := by kernel_rfl

end Go.Proofs.Ytmfcagcanhmdbaa
