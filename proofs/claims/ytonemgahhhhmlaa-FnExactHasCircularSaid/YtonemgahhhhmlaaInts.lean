/- Contracts of the functions on slices of numbers: equality, search. No condition. -/
import Derived.Test.YtonemgahhhhmlaaProg
import Derived.Test.YtonemgahhhhmlaaBase
namespace Go.Proofs.Ytonemgahhhhmlaa
open Go.RowKit

end Go.Proofs.Ytonemgahhhhmlaa
