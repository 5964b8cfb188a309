/- Contracts of the functions that compare and copy slices of slices of numbers. No condition. -/
import Derived.Test.YtcphimmkkfpohaaIntsC
namespace Go.Proofs.Ytcphimmkkfpohaa
open Go.RowKit

set_option maxHeartbeats 400000 in
theorem eqIntSS_any (fp fq : List Nat) (u v : Value) (xs ys : List (List Int)) (w : World) (hu : SlR fp w u xs) (hv : SlR fq w v ys) :
    Calls Try.prog 9 #[u, v] w fun e w' => e = .returned (.bool (decide (xs = ys))) ∧ Gr w w' := by
  obtain ⟨a, ca, rfl, h1, h2, h3⟩ := hu.open
  obtain ⟨c, cc, rfl, g1, g2, g3⟩ := hv.open
  by_cases hl : xs.length = ys.length
  · have hl' := Lib.hid hl
    have hne : ((xs.length : Int) != (ys.length : Int)) = false := by simp [hl]
    clear hl
    go_enter Try.func9, Try.ntmps9
    go_wp2
    go_loopw [5] (fun s5 wr => ∃ k : Nat, k ≤ xs.length ∧ xs.take k = ys.take k ∧ Gr w wr ∧ s5 = .int .i64 k) (fun s5 _ => xs.length - (intOf s5).toNat)
    case atStart => exact ⟨0, by omega, rfl, Gr.refl w, rfl⟩
    case round =>
      obtain ⟨k, hk, ht, ⟨x, rfl⟩, rfl⟩ := hrel
      by_cases hlt : k < xs.length
      · have hlt2 : k < ys.length := by have := hl'.out; omega
        obtain ⟨b, off, rfl, hb⟩ := h3 k hlt
        obtain ⟨b', off', rfl, hb'⟩ := g3 k hlt2
        obtain ⟨r1, f1, x1, hr1, _⟩ := hu.sl_at hlt
        obtain ⟨r2, f2, x2, hr2, _⟩ := hv.sl_at hlt2
        have hT := Lib.hid ht
        clear h3 g3 ht
        go_wp2_with fail
        refine wp_region_grown (by kernel_rfl) (by kernel_rfl) ?_
        repeat (go_big_quiet_step ((go_at_call 28; refine grown_call (eqIntS_any f1 f2 _ _ _ _ _ (hr1.gr ?_) (hr2.gr ?_)) <;> exact ((Gr.refl w).ext _).ext _)))
        refine wpQuiet_nil ?_
        intro _ hw'
        obtain ⟨nx, hw''⟩ := hw'
        subst hw''
        go_wp2
        · rename_i hx
          go_ret
          have hx2 : xs[k] ≠ ys[k] := by simpa using hx
          have E : xs ≠ ys := fun e => hx2 (by subst e; rfl)
          exact ⟨ret_bool (decide_eq_false E).symm, ((Gr.refl w).ext _).ext _⟩
        · rename_i hx
          have hx2 : xs[k] = ys[k] := by simpa using hx
          refine ⟨⟨k + 1, by omega, ?_, ((Gr.refl w).ext _).ext _, by go_num⟩, by simp [intOf]; omega⟩
          rw [List.take_succ_eq_append_getElem hlt, List.take_succ_eq_append_getElem hlt2, hT.out, hx2]
      · have hk2 : k = xs.length := by omega
        subst hk2
        have e : xs = ys := by
          have h := ht
          have h' := hl'.out
          rw [List.take_length, h', List.take_length] at h
          exact h
        have E := Lib.hid e
        clear e ht
        go_wp2
        go_ret
        exact ⟨ret_bool (decide_eq_true E.out).symm, (Gr.refl w).ext _⟩
  · have hne : ((xs.length : Int) != (ys.length : Int)) = true := by simp; omega
    have e : xs ≠ ys := fun e => hl (by rw [e])
    have E := Lib.hid e
    clear e hl
    go_enter Try.func9, Try.ntmps9
    go_wp2
    go_ret
    exact ⟨ret_bool (decide_eq_false E.out).symm, Gr.refl w⟩

theorem Try.infoIntS : (Try.prog.info? 30).map (fun i => (i.zero, i.size, i.bytes)) = some (some (.slice none 0 0), 1, 24) := by kernel_rfl

set_option maxHeartbeats 400000 in
theorem toIntSS_any (fp : List Nat) (u : Value) (xs : List (List Int)) (w : World) (hu : SlR fp w u xs) (hlen : xs.length ≤ 1048576) (hlens : ∀ r ∈ xs, r.length ≤ 1048576) :
    Calls Try.prog 7 #[u] w fun e w' => ∃ v fq, e = .returned v ∧ SlR fq w' v xs ∧ Fresh w fq ∧ Gr w w' := by
  obtain ⟨a, ca, rfl, h1, h2, h3⟩ := hu.open
  obtain ⟨i0, hi, hz0, hz1, hz2⟩ := info_parts Try.infoIntS
  have hmk := fun (W : World) => run_make (P := Try.prog) W 22 30 i0 (.slice none 0 0) Try.underlying22 hi hz0 .i64 .i64 xs.length xs.length (by omega) (by omega) (by rw [hz2]; omega) (by omega)
  rw [hz1] at hmk
  clear hi hz0 hz1 hz2
  simp only [Int.toNat_natCast, Nat.mul_one] at hmk
  have hms := size_madeCells (Value.slice none 0 0).cells xs.length
  generalize madeCells (Value.slice none 0 0).cells xs.length = C0 at hmk hms
  have HS := Lib.hid hms
  have HLS := Lib.hid hlens
  clear hms hlens
  go_enter Try.func7, Try.ntmps7
  go_wp2
  go_loopw [4] (fun s4 wr => ∃ (k : Nat) (C : Array Value) (x : Ext) (fps : List (List Nat)), C.size = xs.length ∧ PartR w w.heap.size wr C k fps xs ∧ wr = (w.alloc (.cells C 30)).ext x ∧ s4 = .int .i64 k) (fun s4 _ => xs.length - (intOf s4).toNat)
  case atStart => exact ⟨0, C0, ⟨#[], 0⟩, [], HS.out, PartR.start _ _ (Nat.le_refl _) (by simp), (ext_zero _).symm, rfl⟩
  case round =>
    obtain ⟨k, C, x, fps, hC, hp, rfl, rfl⟩ := hrel
    have hCs := Lib.hid hC
    have hk := hp.le
    by_cases hlt : k < xs.length
    · obtain ⟨b, off, rfl, hb⟩ := h3 k hlt
      obtain ⟨r1, f1, x1, hr1, _⟩ := hu.sl_at hlt
      have y1 : k < C.size := by omega
      have hlr := HLS.out _ (List.getElem_mem hlt)
      clear hC h3
      go_wp2_with (go_at_call 21; refine (toIntS_any f1 _ _ _ (hr1.gr (((Gr.refl w).alloc _).ext _)) hlr).mono ?_; rintro e w1 ⟨v, fq, rfl, hs, hf, y, rfl⟩; obtain ⟨a1, c1, rfl, -, -, -⟩ := hs.open)
      refine ⟨⟨k + 1, C.setIfInBounds k _, x.comp y, fps ++ [fq], ?_, ?_, ext_ext _ _ _, by go_num⟩, by simp [intOf]; omega⟩
      · simp [hCs.out]
      · rw [ext_ext]
        exact hp.step_own hlt (cs := [_]) ⟨_, rfl, hs⟩ hf (fun j hj => set_hold hj) (set_new y1)
    · have hk2 : k = xs.length := by omega
      subst hk2
      obtain ⟨fq, hs, hf⟩ := hp.done (heap_own_self _ x) (cap := xs.length) (Nat.le_refl _) (by unfold reachLen; omega)
      have HF := Lib.hid hs
      clear hs hC
      go_wp2
      go_ret
      exact ⟨_, fq, rfl, HF.out, hf, ((Gr.refl w).alloc _).ext _⟩
end Go.Proofs.Ytcphimmkkfpohaa
