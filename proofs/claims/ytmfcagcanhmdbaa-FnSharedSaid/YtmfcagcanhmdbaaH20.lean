/- Contracts of the functions that measure, compare and copy: Instance, Instance*, Reading, Reading*. Made by mk_fam.py. No condition. -/
import Derived.Test.YtmfcagcanhmdbaaH02
namespace Go.Proofs.Ytmfcagcanhmdbaa
open Go.RowKit

abbrev GInstance := Int × ByteArray
abbrev GReading := GInstance × Int × ByteArray
instance decReading : DecidableEq GReading := @instDecidableEqProd _ _ _ (@instDecidableEqProd _ _ _ (inferInstance))

end Go.Proofs.Ytmfcagcanhmdbaa
