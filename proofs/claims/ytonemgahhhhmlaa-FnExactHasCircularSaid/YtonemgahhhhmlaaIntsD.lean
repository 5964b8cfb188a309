/- Contracts of the functions that compare and copy slices of slices of numbers. No condition. -/
import Derived.Test.YtonemgahhhhmlaaIntsC
namespace Go.Proofs.Ytonemgahhhhmlaa
open Go.RowKit

end Go.Proofs.Ytonemgahhhhmlaa