/- Contracts of the functions that measure and copy slices of numbers, and slices of these. No condition. -/
import Derived.Test.YtmfcagcanhmdbaaIntsB
import Derived.Test.YtmfcagcanhmdbaaBaseB
namespace Go.Proofs.Ytmfcagcanhmdbaa
open Go.RowKit

theorem Try.infoInt : (Try.prog.info? 3).map (fun i => (i.zero, i.size, i.bytes)) = some (some (.int .i64 0), 1, 8) := by kernel_rfl

theorem szIntS_any (fp : List Nat) (u : Value) (xs : List Int) (left : Int) (w : World) (hu : SlR fp w u xs) (h0 : -1 ≤ left) (h1 : left ≤ 1048576) :
    Calls Try.prog 88 #[u, .int .i64 left] w fun e w' => e = .returned (.int .i64 (less left xs.length)) ∧ w = w' := by
  obtain ⟨a, ca, rfl, g1, g2, g3⟩ := hu.open
  go_enter Try.func88, Try.ntmps88
  go_wp2
  all_goals
    go_ret
    refine ⟨ret_int ?_, rfl⟩
    unfold less
    first | rw [if_pos (by omega)] | rw [if_neg (by omega)]

set_option maxHeartbeats 400000 in
theorem toIntS_any (fp : List Nat) (u : Value) (xs : List Int) (w : World) (hu : SlR fp w u xs) (hlen : xs.length ≤ 1048576) :
    Calls Try.prog 89 #[u] w fun e w' => ∃ v fq, e = .returned v ∧ SlR fq w' v xs ∧ Fresh w fq ∧ Gr w w' := by
  obtain ⟨a, ca, rfl, h1, h2, h3⟩ := hu.open
  obtain ⟨i0, hi, hz0, hz1, hz2⟩ := info_parts Try.infoInt
  have hmk := fun (W : World) => run_make (P := Try.prog) W 59 3 i0 (.int .i64 0) Try.underlying59 hi hz0 .i64 .i64 xs.length xs.length (by omega) (by omega) (by rw [hz2]; omega) (by omega)
  rw [hz1] at hmk
  clear hi hz0 hz1 hz2
  simp only [Int.toNat_natCast, Nat.mul_one] at hmk
  have hms := size_madeCells (Value.int .i64 0).cells xs.length
  generalize madeCells (Value.int .i64 0).cells xs.length = C0 at hmk hms
  have HS := Lib.hid hms
  clear hms
  go_enter Try.func89, Try.ntmps89
  go_wp2
  go_loopw [4] (fun s4 wr => ∃ (k : Nat) (C : Array Value), k ≤ xs.length ∧ C.size = xs.length ∧ (∀ j (h : j < xs.length), j < k → C[j]? = some (.int .i64 xs[j])) ∧ wr = w.alloc (.cells C 3) ∧ s4 = .int .i64 k) (fun s4 _ => xs.length - (intOf s4).toNat)
  case atStart => exact ⟨0, C0, by omega, HS.out, by omega, rfl, rfl⟩
  case round =>
    obtain ⟨k, C, hk, hC, ht, rfl, rfl⟩ := hrel
    have hT := Lib.hid ht
    have hCs := Lib.hid hC
    by_cases hlt : k < xs.length
    · obtain ⟨b, off, rfl, hb⟩ := h3 k hlt
      have x1 := (hu.int_at hlt).1
      have y1 : k < C.size := by omega
      clear ht hC h3
      go_wp2
      refine ⟨⟨k + 1, _, by omega, by simp [hCs.out], fun j hj hjk => ?_, rfl, by go_num⟩, by simp [intOf]; omega⟩
      rw [Array.getElem?_setIfInBounds]
      split
      · rename_i e; subst e; rfl
      · exact hT.out j hj (by omega)
    · have hk2 : k = xs.length := by omega
      subst hk2
      obtain ⟨fq, hs, hf⟩ := SlR.flat (w := w.alloc (.cells C 3)) (b := w.heap.size) (C := C) (t := 3) (cap := xs.length) (xs := xs) (heap_alloc_new w _) rfl
        (fun j hj => ⟨_, ht j hj hj, rfl, rfl, hu.int_wf hj⟩) (Nat.le_refl _) (by unfold reachLen; omega)
      have HF := Lib.hid hs
      clear hs ht hC
      go_wp2
      go_ret
      exact ⟨_, fq, rfl, HF.out, Fresh.of_flat hf (Nat.le_refl _), (Gr.refl w).alloc _⟩

theorem szIntS_gr (fp : List Nat) (u : Value) (xs : List Int) (left : Int) (w : World) (hu : SlR fp w u xs) (h0 : -1 ≤ left) (h1 : left ≤ 1048576) :
    Calls Try.prog 88 #[u, .int .i64 left] w fun e w' => e = .returned (.int .i64 (less left xs.length)) ∧ Gr w w' :=
  (szIntS_any fp u xs left w hu h0 h1).mono fun _ _ ⟨he, hw⟩ => ⟨he, hw ▸ Gr.refl w⟩

/-- How many numbers and rows a table holds. -/
def wtSS (xss : List (List Int)) : Nat := wtL List.length xss

end Go.Proofs.Ytmfcagcanhmdbaa