/- What the rows read at a Session is what the walks read; the grammar's depth: any from the fuel on. No condition. -/
import Derived.Test.YtmdiabjaggadjaaGreatSessBase
import Derived.Test.YtmdiabjaggadjaaGreatOpensGram
import Derived.Test.YtmdiabjaggadjaaGreatOpensEntry
import Derived.Test.YtmdiabjaggadjaaGreatOpensTree
namespace Go.Proofs.YtmdiabjaggadjaaGreat
open Go.RowKit

theorem opensSessionN (d : Nat) : OpensN d (GSession d) Tryz.prog 34 := by
  refine OpensN.less (opensN_struct 6 Tryz.underlying34 rfl (by kernel_rfl) ?_)
  refine segN_cons ?_ rfl (segN_cons ?_ rfl (segN_cons ?_ rfl (segN_one ?_ rfl)))
  · exact opensGrammarN d
  · exact opensTree.toN _
  · exact opensMemo.toN _
  · exact (opens_int Tryz.underlying3 (by kernel_rfl)).toN _

end Go.Proofs.YtmdiabjaggadjaaGreat
