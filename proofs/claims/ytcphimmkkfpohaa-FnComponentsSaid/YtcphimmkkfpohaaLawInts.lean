/- Contracts of the laws' functions on slices of numbers. No condition. -/
import Derived.Test.YtcphimmkkfpohaaIntsD
namespace Go.Proofs.Ytcphimmkkfpohaa
open Go.RowKit

set_option maxHeartbeats 400000 in
theorem sameInts_any (fp fq : List Nat) (u v : Value) (xs ys : List Int) (w : World) (hu : SlR fp w u xs) (hv : SlR fq w v ys) :
    Calls Try.prog 14 #[u, v] w fun e w' => e = .returned (.bool (decide (xs = ys))) ∧ Gr w w' := by
  obtain ⟨a, ca, rfl, h1, h2, h3⟩ := hu.open
  obtain ⟨c, cc, rfl, g1, g2, g3⟩ := hv.open
  by_cases hl : xs.length = ys.length
  · have hl' := Lib.hid hl
    have hne : ((xs.length : Int) != (ys.length : Int)) = false := by simp [hl]
    clear hl
    go_enter Try.func14, Try.ntmps14
    go_wp2
    go_loopw [5] (fun s5 wr => ∃ k : Nat, k ≤ xs.length ∧ xs.take k = ys.take k ∧ Gr w wr ∧ s5 = .int .i64 k) (fun s5 _ => xs.length - (intOf s5).toNat)
    case atStart => exact ⟨0, by omega, rfl, Gr.refl w, rfl⟩
    case round =>
      obtain ⟨k, hk, ht, ⟨x, rfl⟩, rfl⟩ := hrel
      by_cases hlt : k < xs.length
      · have hlt2 : k < ys.length := by have := hl'.out; omega
        obtain ⟨b, off, rfl, hb⟩ := h3 k hlt
        obtain ⟨b', off', rfl, hb'⟩ := g3 k hlt2
        have x1 := (hu.int_at hlt).1
        have x2 := (hv.int_at hlt2).1
        have z1 := blk x1
        have z2 := blk x2
        have hT := Lib.hid ht
        clear h3 g3 ht
        go_wp2_with fail
        refine wp_region_grown (by kernel_rfl) (by kernel_rfl) ?_
        repeat (go_big_quiet_step (fail))
        refine wpQuiet_nil ?_
        intro _ hw'
        obtain ⟨nx, hw''⟩ := hw'
        subst hw''
        go_wp2
        · rename_i hx
          go_ret
          have hx2 : xs[k] ≠ ys[k] := by simpa using hx
          have E : xs ≠ ys := fun e => hx2 (by subst e; rfl)
          exact ⟨ret_bool (decide_eq_false E).symm, ((Gr.refl w).ext _).ext _⟩
        · rename_i hx
          have hx2 : xs[k] = ys[k] := by simpa using hx
          refine ⟨⟨k + 1, by omega, ?_, ((Gr.refl w).ext _).ext _, by go_num⟩, by simp [intOf]; omega⟩
          rw [List.take_succ_eq_append_getElem hlt, List.take_succ_eq_append_getElem hlt2, hT.out, hx2]
      · have hk2 : k = xs.length := by omega
        subst hk2
        have e : xs = ys := by
          have h := ht
          have h' := hl'.out
          rw [List.take_length, h', List.take_length] at h
          exact h
        have E := Lib.hid e
        clear e ht
        go_wp2
        go_ret
        exact ⟨ret_bool (decide_eq_true E.out).symm, (Gr.refl w).ext _⟩
  · have hne : ((xs.length : Int) != (ys.length : Int)) = true := by simp; omega
    have e : xs ≠ ys := fun e => hl (by rw [e])
    have E := Lib.hid e
    clear e hl
    go_enter Try.func14, Try.ntmps14
    go_wp2
    go_ret
    exact ⟨ret_bool (decide_eq_false E.out).symm, Gr.refl w⟩

/-- How often a number occurs. -/
def cntI (xs : List Int) (y : Int) : Nat := (xs.filter fun z => z == y).length
theorem cntI_le (xs : List Int) (y : Int) : cntI xs y ≤ xs.length := List.length_filter_le _ _
theorem cntI_succ {xs : List Int} {y : Int} {k : Nat} (h : k < xs.length) : cntI (xs.take (k + 1)) y = cntI (xs.take k) y + if xs[k] == y then 1 else 0 := by
  unfold cntI
  rw [List.take_succ_eq_append_getElem h, List.filter_append, List.length_append]
  congr 1
  simp only [List.filter_cons, List.filter_nil]
  split <;> rfl

set_option maxHeartbeats 400000 in
theorem times_any (fp : List Nat) (u : Value) (xs : List Int) (y : Int) (w : World) (hu : SlR fp w u xs) :
    Calls Try.prog 37 #[u, .int .i64 y] w fun e w' => e = .returned (.int .i64 (cntI xs y)) ∧ Gr w w' := by
  obtain ⟨a, ca, rfl, h1, h2, h3⟩ := hu.open
  go_enter Try.func37, Try.ntmps37
  go_wp2
  go_loopw [5, 6] (fun s5 s6 wr => ∃ k : Nat, k ≤ xs.length ∧ Gr w wr ∧ s6 = .int .i64 k ∧ s5 = .int .i64 (cntI (xs.take k) y)) (fun _ s6 _ => xs.length - (intOf s6).toNat)
  case atStart => exact ⟨0, by omega, Gr.refl w, rfl, rfl⟩
  case round =>
    obtain ⟨k, hk, ⟨x, rfl⟩, rfl, rfl⟩ := hrel
    by_cases hlt : k < xs.length
    · obtain ⟨b, off, rfl, hb⟩ := h3 k hlt
      have x1 := (hu.int_at hlt).1
      have z1 := blk x1
      have hs := Lib.hid (cntI_succ (y := y) hlt)
      have hl := cntI_le (xs.take k) y
      have hl2 : (xs.take k).length ≤ 140737488351232 := by simp; omega
      clear h3
      by_cases he : xs[k] = y
      · have heb : (xs[k] == y) = true := by simpa using he
        have HE := Lib.hid heb
        clear he
        go_wp2
        refine ⟨⟨k + 1, by omega, (Gr.refl w).ext _, by go_num, ?_⟩, by simp [intOf]; omega⟩
        rw [hs.out, HE.out]
        go_num
      · have heb : (xs[k] == y) = false := by simpa using he
        have HE := Lib.hid heb
        clear he
        go_wp2
        refine ⟨⟨k + 1, by omega, (Gr.refl w).ext _, by go_num, ?_⟩, by simp [intOf]; omega⟩
        rw [hs.out, HE.out]
        rfl
    · have hk2 : k = xs.length := by omega
      subst hk2
      go_wp2
      go_ret
      exact ⟨ret_int (by rw [List.take_length]), (Gr.refl w).ext _⟩

theorem has_yes (fp : List Nat) (u : Value) (xs : List Int) (y : Int) (w : World) (hu : SlR fp w u xs) (hy : y ∈ xs) :
    Calls Try.prog 17 #[u, .int .i64 y] w fun e w' => e = .returned (.bool true) ∧ Gr w w' := by
  have HU := Lib.hid hu
  obtain ⟨a, ca, rfl, h1, h2, h3⟩ := hu.open
  have hp : 0 < cntI xs y := by
    unfold cntI
    exact List.length_pos_of_mem (List.mem_filter.2 ⟨hy, by simp⟩)
  clear hu h3 hy
  go_enter Try.func17, Try.ntmps17
  go_wp2_with fail
  refine (times_any _ _ xs y _ HU.out).mono ?_
  rintro e w1 ⟨rfl, g1⟩
  go_wp2_with fail
  go_ret
  exact ⟨rfl, g1⟩
end Go.Proofs.Ytcphimmkkfpohaa
