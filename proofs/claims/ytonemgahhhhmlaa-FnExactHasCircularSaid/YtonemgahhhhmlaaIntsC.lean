/- Contracts of the functions that measure and copy slices of numbers, and slices of these. No condition. -/
import Derived.Test.YtonemgahhhhmlaaIntsB
import Derived.Test.YtonemgahhhhmlaaBaseB
namespace Go.Proofs.Ytonemgahhhhmlaa
open Go.RowKit

theorem Try.infoInt : (Try.prog.info? 3).map (fun i => (i.zero, i.size, i.bytes)) = some (some (.int .i64 0), 1, 8) := by kernel_rfl

/-- How many numbers and rows a table holds. -/
def wtSS (xss : List (List Int)) : Nat := wtL List.length xss

end Go.Proofs.Ytonemgahhhhmlaa