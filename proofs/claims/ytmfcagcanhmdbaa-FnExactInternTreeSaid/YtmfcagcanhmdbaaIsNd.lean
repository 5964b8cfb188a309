/- Whether a number is a node of a tree. No condition. -/
import Derived.Test.YtmfcagcanhmdbaaFamTree
namespace Go.Proofs.Ytmfcagcanhmdbaa
open Go.RowKit

set_option maxHeartbeats 4000000 in
theorem nodeIn_any {ft : List Nat} {ct : Array Value} (t : List GNode) (i : Int) (w : World) (ht : Rd.rd ft w ct.toList t) :
    Calls Try.prog 37 #[.agg ct, .int .i64 i] w fun e w' => e = .returned (.bool (decide (0 ≤ i) && decide (i ≤ (t.length : Int) - 1))) ∧ Gr w w' := by
  have HT := Lib.hid ht
  obtain ⟨t0, rfl⟩ : ∃ y, y = t := ⟨t, rfl⟩
  obtain ⟨vt0, ft0, rfl, hfpt, ht0⟩ := rdTree_inv t0 ht
  have FPt := Lib.hid hfpt
  clear hfpt
  obtain ⟨at0, kt0, rfl, ot01, ot02, ot03⟩ := ht0.open
  clear ht
  go_enter Try.func37, Try.ntmps37
  go_wp2_with fail
  refine (within_any _ _ _ _).mono ?_
  rintro e w' ⟨rfl, rfl⟩
  go_wp2_with fail
  go_ret
  exact ⟨rfl, (by repeat (first | exact Gr.refl _ | apply Gr.ext | apply Gr.alloc | apply Gr.drew))⟩

theorem nodeIn_yes {ft : List Nat} {ct : Array Value} (t : List GNode) (i : Int) (w : World) (ht : Rd.rd ft w ct.toList t) (h : 0 ≤ i) (h' : i ≤ (t.length : Int) - 1) :
    Calls Try.prog 37 #[.agg ct, .int .i64 i] w fun e w' => e = .returned (.bool true) ∧ Gr w w' :=
  (nodeIn_any t i w ht).mono fun e w' ⟨he, hw⟩ => ⟨by rw [he, decide_eq_true h, decide_eq_true h']; rfl, hw⟩
theorem nodeIn_no {ft : List Nat} {ct : Array Value} (t : List GNode) (i : Int) (w : World) (ht : Rd.rd ft w ct.toList t) (h : i < 0 ∨ (t.length : Int) - 1 < i) :
    Calls Try.prog 37 #[.agg ct, .int .i64 i] w fun e w' => e = .returned (.bool false) ∧ Gr w w' :=
  (nodeIn_any t i w ht).mono fun e w' ⟨he, hw⟩ => ⟨by rw [he, Bool.and_eq_false_iff.2 (h.imp (fun h => decide_eq_false (by omega)) (fun h => decide_eq_false (by omega)))], hw⟩
end Go.Proofs.Ytmfcagcanhmdbaa
