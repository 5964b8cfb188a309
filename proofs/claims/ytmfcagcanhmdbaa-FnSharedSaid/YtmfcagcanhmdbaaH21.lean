/- Contracts of the functions that measure, compare and copy: Entry. Made by mk_fam.py. Contracts of the functions that measure, compare and copy: Entry*, Memo. Made by mk_fam.py. No condition. -/
import Derived.Test.YtmfcagcanhmdbaaH20
namespace Go.Proofs.Ytmfcagcanhmdbaa
open Go.RowKit

abbrev GEntry := GInstance × Int × Int × Int × ByteArray × List Int × List Int × List GReading
instance decEntry : DecidableEq GEntry := @instDecidableEqProd _ _ _ (@instDecidableEqProd _ _ _ (@instDecidableEqProd _ _ _ (@instDecidableEqProd _ _ _ (@instDecidableEqProd _ _ _ (@instDecidableEqProd _ _ _ (@instDecidableEqProd _ _ _ (inferInstance)))))))

end Go.Proofs.Ytmfcagcanhmdbaa

namespace Go.Proofs.Ytmfcagcanhmdbaa
open Go.RowKit

end Go.Proofs.Ytmfcagcanhmdbaa
