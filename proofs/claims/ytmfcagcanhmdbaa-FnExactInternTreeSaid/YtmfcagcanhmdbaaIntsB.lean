/- Contracts of the functions on slices of numbers, continued: search with a test, sizes, copies; slices of slices of numbers. No condition. -/
import Derived.Test.YtmfcagcanhmdbaaInts
namespace Go.Proofs.Ytmfcagcanhmdbaa
open Go.RowKit

set_option maxHeartbeats 400000 in
theorem l1HasInt_any (fp : List Nat) (u : Value) (xs : List Int) (y : Int) (w : World) (hu : SlR fp w u xs) :
    Calls Try.prog 64 #[u, .int .i64 y] w fun e w' => e = .returned (.bool (xs.any (fun z => y == z))) ∧ Gr w w' := by
  obtain ⟨a, ca, rfl, h1, h2, h3⟩ := hu.open
  go_enter Try.func64, Try.ntmps64
  go_wp2
  go_loopw [5] (fun s5 wr => ∃ k : Nat, k ≤ xs.length ∧ (∀ j (h : j < xs.length), j < k → (xs[j] == y) = false) ∧ Gr w wr ∧ s5 = .int .i64 k) (fun s5 _ => xs.length - (intOf s5).toNat)
  case atStart => exact ⟨0, by omega, by omega, Gr.refl w, rfl⟩
  case round =>
    obtain ⟨k, hk, ht, ⟨x, rfl⟩, rfl⟩ := hrel
    have hT := Lib.hid ht
    clear ht
    by_cases hlt : k < xs.length
    · obtain ⟨b, off, rfl, hb⟩ := h3 k hlt
      have x1 := (hu.int_at hlt).1
      have z1 := blk x1
      clear h3
      go_wp2
      · rename_i hx
        go_ret
        exact ⟨ret_bool (any_eq_at hlt hx).symm, (Gr.refl w).ext _⟩
      · rename_i hx
        refine ⟨⟨k + 1, by omega, fun j hj hjk => ?_, (Gr.refl w).ext _, by go_num⟩, by simp [intOf]; omega⟩
        by_cases hjk' : j < k
        · exact hT.out j hj hjk'
        · obtain rfl : j = k := by omega
          exact hx
    · go_wp2
      go_ret
      exact ⟨ret_bool (any_eq_none fun j hj => hT.out j hj (by omega)).symm, (Gr.refl w).ext _⟩

/-- A function value whose body is a function of the text answers a test on numbers. -/
structure TestI (w : World) (fid : Nat) (cap : Array Value) (p : Int → Bool) (xs : List Int) : Prop where
  fn : ∀ args W, (callFunc fid args).run Try.prog W = .ok (.enter fid args) W
  calls : ∀ y ∈ xs, ∀ x : Ext, Calls Try.prog fid (#[.int .i64 y] ++ cap) (w.ext x) fun e w' => e = .returned (.bool (p y)) ∧ Gr (w.ext x) w'

set_option maxHeartbeats 400000 in
theorem slicesIndexFuncI_any (fp : List Nat) (u : Value) (xs : List Int) (fid : Nat) (cap : Array Value) (p : Int → Bool) (w : World) (hu : SlR fp w u xs) (hf : TestI w fid cap p xs) :
    Calls Try.prog 86 #[u, .func (.func fid) #[] cap] w fun e w' => e = .returned (.int .i64 (idxOf p xs)) ∧ Gr w w' := by
  obtain ⟨a, ca, rfl, h1, h2, h3⟩ := hu.open
  obtain ⟨hfn, hcalls⟩ := hf
  have HC := Lib.hid hcalls
  clear hcalls
  go_enter Try.func86, Try.ntmps86
  go_wp2
  go_loopw [8, 5] (fun s8 s5 wr => ∃ k : Nat, k ≤ xs.length ∧ (∀ j (h : j < xs.length), j < k → p xs[j] = false) ∧ Gr w wr ∧ s8 = .int .i64 k) (fun s8 s5 _ => xs.length - (intOf s8).toNat)
  case atStart => exact ⟨0, by omega, by omega, Gr.refl w, rfl⟩
  case round =>
    obtain ⟨k, hk, ht, ⟨x, rfl⟩, rfl⟩ := hrel
    have hT := Lib.hid ht
    clear ht
    by_cases hlt : k < xs.length
    · obtain ⟨b, off, rfl, hb⟩ := h3 k hlt
      have x1 := (hu.int_at hlt).1
      have z1 := blk x1
      clear h3
      go_wp2_with fail
      refine (HC.out _ (List.getElem_mem hlt) _).mono ?_
      rintro e w2 ⟨rfl, x2, rfl⟩
      go_wp2
      · rename_i hx
        go_ret
        exact ⟨ret_int (idxOf_at hlt hx hT.out).symm, ((Gr.refl w).ext _).ext _⟩
      · rename_i hx
        refine ⟨⟨k + 1, by omega, fun j hj hjk => ?_, ((Gr.refl w).ext _).ext _, by go_num⟩, by simp [intOf]; omega⟩
        by_cases hjk' : j < k
        · exact hT.out j hj hjk'
        · obtain rfl : j = k := by omega
          exact hx
    · go_wp2
      go_ret
      exact ⟨ret_int (idxOf_none fun j hj => hT.out j hj (by omega)).symm, (Gr.refl w).ext _⟩

theorem slicesContainsFuncI_any (fp : List Nat) (u : Value) (xs : List Int) (fid : Nat) (cap : Array Value) (p : Int → Bool) (w : World) (hu : SlR fp w u xs) (hf : TestI w fid cap p xs) :
    Calls Try.prog 61 #[u, .func (.func fid) #[] cap] w fun e w' => e = .returned (.bool (xs.any p)) ∧ Gr w w' := by
  go_enter Try.func61, Try.ntmps61
  go_wp2_with (go_at_call 86; refine (slicesIndexFuncI_any fp _ _ _ _ _ _ hu hf).mono ?_; rintro e w1 ⟨rfl, g1⟩)
  go_ret
  refine ⟨ret_bool ?_, by assumption⟩
  rw [Bool.eq_iff_iff, decide_eq_true_iff]
  exact idxOf_nonneg
end Go.Proofs.Ytmfcagcanhmdbaa
