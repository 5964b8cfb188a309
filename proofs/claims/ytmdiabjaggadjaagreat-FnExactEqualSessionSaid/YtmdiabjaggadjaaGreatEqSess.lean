/- Both EqualSession, and the laws' Session family. No condition. -/
import Derived.Test.YtmdiabjaggadjaaGreatEqSessI
import Derived.Test.YtmdiabjaggadjaaGreatEqSessS
import Derived.Test.YtmdiabjaggadjaaGreatSessTo
namespace Go.Proofs.YtmdiabjaggadjaaGreat
end Go.Proofs.YtmdiabjaggadjaaGreat
