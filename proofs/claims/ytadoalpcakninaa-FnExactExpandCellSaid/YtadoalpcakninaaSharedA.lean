/- isCell of the program. No condition. -/
import Derived.Test.YtadoalpcakninaaValid
import Derived.Test.YtadoalpcakninaaReach
import Derived.Test.YtadoalpcakninaaAppendGr
namespace Go.Proofs.Ytadoalpcakninaa
open Go.RowKit

set_option maxHeartbeats 2000000 in
theorem isCell_any (fp : List Nat) (cs : Array Value) (xs : List GCell) (a : Int) (w : World) (hx : Rd.rd fp w cs.toList xs) :
    Calls Try.prog 36 #[.agg cs, .int .i64 a] w fun e w' => e = .returned (.bool (validB xs && (decide (0 ≤ a) && decide (a ≤ (xs.length : Int) - 1)))) ∧ Gr w w' := by
  have hrx := hx
  obtain ⟨v, f, rfl, -, hu⟩ := rdStore_inv xs hx
  obtain ⟨aa, ca, rfl, h1, h2, h3⟩ := hu.open
  clear hx h3
  by_cases hv : ValidStore xs
  · have HV := Lib.hid hv
    clear hv
    go_enter Try.func36, Try.ntmps36
    go_wp2_with fail
    refine (implValid_any _ _ xs _ (Rd.gr hrx (by repeat (first | exact Gr.refl _ | apply Gr.ext | apply Gr.alloc | apply Gr.drew)))).mono ?_
    rintro e w' ⟨rfl, x1, rfl⟩
    rw [validB_true HV.out]
    go_wp2_with fail
    refine (within_any _ _ _ _).mono ?_
    rintro e w' ⟨rfl, rfl⟩
    go_wp2_with fail
    go_ret
    exact ⟨ret_bool (by simp [validB_true HV.out]), (by repeat (first | exact Gr.refl _ | apply Gr.ext | apply Gr.alloc | apply Gr.drew))⟩
  · have HV := Lib.hid hv
    clear hv
    go_enter Try.func36, Try.ntmps36
    go_wp2_with fail
    refine (implValid_any _ _ xs _ (Rd.gr hrx (by repeat (first | exact Gr.refl _ | apply Gr.ext | apply Gr.alloc | apply Gr.drew)))).mono ?_
    rintro e w' ⟨rfl, x1, rfl⟩
    rw [validB_false HV.out]
    go_wp2_with fail
    go_ret
    exact ⟨ret_bool (by simp [validB_false HV.out]), (by repeat (first | exact Gr.refl _ | apply Gr.ext | apply Gr.alloc | apply Gr.drew))⟩
end Go.Proofs.Ytadoalpcakninaa
