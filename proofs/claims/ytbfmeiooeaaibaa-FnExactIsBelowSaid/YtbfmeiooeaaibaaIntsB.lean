/- Contracts of the functions on slices of numbers, continued: search with a test, sizes, copies; slices of slices of numbers. No condition. -/
import Derived.Test.YtbfmeiooeaaibaaInts
namespace Go.Proofs.Ytbfmeiooeaaibaa
open Go.RowKit

set_option maxHeartbeats 400000 in
theorem l1HasInt_any (fp : List Nat) (u : Value) (xs : List Int) (y : Int) (w : World) (hu : SlR fp w u xs) :
    Calls Try.prog 72 #[u, .int .i64 y] w fun e w' => e = .returned (.bool (xs.any (fun z => y == z))) ∧ Gr w w' := by
  obtain ⟨a, ca, rfl, h1, h2, h3⟩ := hu.open
  go_enter Try.func72, Try.ntmps72
  go_wp2
  go_loopw [5] (fun s5 wr => ∃ k : Nat, k ≤ xs.length ∧ (∀ j (h : j < xs.length), j < k → (xs[j] == y) = false) ∧ Gr w wr ∧ s5 = .int .i64 k) (fun s5 _ => xs.length - (intOf s5).toNat)
  case atStart => exact ⟨0, by omega, by omega, Gr.refl w, rfl⟩
  case round =>
    obtain ⟨k, hk, ht, ⟨x, rfl⟩, rfl⟩ := hrel
    have hT := Lib.hid ht
    clear ht
    by_cases hlt : k < xs.length
    · obtain ⟨b, off, rfl, hb⟩ := h3 k hlt
      have x1 := (hu.int_at hlt).1
      have z1 := blk x1
      clear h3
      go_wp2
      · rename_i hx
        go_ret
        exact ⟨ret_bool (any_eq_at hlt hx).symm, (Gr.refl w).ext _⟩
      · rename_i hx
        refine ⟨⟨k + 1, by omega, fun j hj hjk => ?_, (Gr.refl w).ext _, by go_num⟩, by simp [intOf]; omega⟩
        by_cases hjk' : j < k
        · exact hT.out j hj hjk'
        · obtain rfl : j = k := by omega
          exact hx
    · go_wp2
      go_ret
      exact ⟨ret_bool (any_eq_none fun j hj => hT.out j hj (by omega)).symm, (Gr.refl w).ext _⟩

/-- A function value whose body is a function of the text answers a test on numbers. -/
structure TestI (w : World) (fid : Nat) (cap : Array Value) (p : Int → Bool) (xs : List Int) : Prop where
  fn : ∀ args W, (callFunc fid args).run Try.prog W = .ok (.enter fid args) W
  calls : ∀ y ∈ xs, ∀ x : Ext, Calls Try.prog fid (#[.int .i64 y] ++ cap) (w.ext x) fun e w' => e = .returned (.bool (p y)) ∧ Gr (w.ext x) w'

end Go.Proofs.Ytbfmeiooeaaibaa