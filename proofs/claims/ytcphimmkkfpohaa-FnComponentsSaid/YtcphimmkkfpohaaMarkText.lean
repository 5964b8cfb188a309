/- The marks' texts. No condition. -/
import Derived.Test.YtcphimmkkfpohaaMarkBase
import Derived.Test.YtcphimmkkfpohaaIntsD
import Derived.Laws.IdiomStrings
namespace Go.Proofs.Ytcphimmkkfpohaa
open Go.RowKit

/-- The digits of a number, none for zero. -/
def dig (n : Nat) : List UInt8 := if _h : n = 0 then [] else dig (n / 10) ++ [UInt8.ofNat (48 + n % 10)]
termination_by n
decreasing_by omega

theorem dig_zero : dig 0 = [] := by rw [dig]; rfl
theorem dig_pos {n : Nat} (h : 0 < n) : dig n = dig (n / 10) ++ [UInt8.ofNat (48 + n % 10)] := by rw [dig, dif_neg (by omega)]
theorem dig_len (n : Nat) : (dig n).length ≤ n := by
  induction n using Nat.strongRecOn with
  | _ n ih =>
    by_cases h : n = 0
    · subst h; simp [dig_zero]
    · rw [dig_pos (by omega)]
      have := ih (n / 10) (by omega)
      simp
      omega

/-- The text of a mark. -/
def mtx (k : Int) : ByteArray := if k ≤ 0 then ⟨#[109, 48]⟩ else ⟨(109 :: dig k.toNat).toArray⟩

theorem mtx_size (k : Int) (h : k ≤ 140737488351231) : (mtx k).size ≤ maxLen := by
  unfold mtx maxLen
  split
  · show 2 ≤ _; omega
  · have := dig_len k.toNat
    show (109 :: dig k.toNat).toArray.size ≤ _
    simp
    omega

end Go.Proofs.Ytcphimmkkfpohaa