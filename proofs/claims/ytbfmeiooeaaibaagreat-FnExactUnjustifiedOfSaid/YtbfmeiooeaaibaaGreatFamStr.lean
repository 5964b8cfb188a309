/- A slice of texts measured, copied, compared. Made by mk_str.py. No condition. -/
import Derived.Test.YtbfmeiooeaaibaaGreatIntsD
namespace Go.Proofs.YtbfmeiooeaaibaaGreat
open Go.RowKit

theorem bool_ne {a b : Bool} (h : (a != b) = true) : a ≠ b := by simpa using h
theorem bool_eq {a b : Bool} (h : (a != b) = false) : a = b := by simpa using h
theorem Tryz.infoStrG : (Tryz.prog.info? 9).map (fun i => (i.zero, i.size, i.bytes)) = some (some (.string ByteArray.empty), 1, 16) := by kernel_rfl
def wtStringS (xs : List ByteArray) : Nat := wtL ByteArray.size xs

set_option maxHeartbeats 400000 in
theorem eqStringS_any (fp fq : List Nat) (u v : Value) (xs ys : List ByteArray) (w : World) (hu : SlR fp w u xs) (hv : SlR fq w v ys) :
    Calls Tryz.prog 130 #[u, v] w fun e w' => e = .returned (.bool (decide (xs = ys))) ∧ Gr w w' := by
  obtain ⟨a, ca, rfl, h1, h2, h3⟩ := hu.open
  obtain ⟨c, cc, rfl, g1, g2, g3⟩ := hv.open
  by_cases hl : xs.length = ys.length
  · have hl' := Lib.hid hl
    have hne : ((xs.length : Int) != (ys.length : Int)) = false := by simp [hl]
    clear hl
    go_enter Tryz.func130, Tryz.ntmps130
    go_wp2
    go_loopw [5] (fun s5 wr => ∃ k : Nat, k ≤ xs.length ∧ xs.take k = ys.take k ∧ Gr w wr ∧ s5 = .int .i64 k) (fun s5 _ => xs.length - (intOf s5).toNat)
    case atStart => exact ⟨0, by omega, rfl, Gr.refl w, rfl⟩
    case round =>
      obtain ⟨k, hk, ht, ⟨x, rfl⟩, rfl⟩ := hrel
      by_cases hlt : k < xs.length
      · have hlt2 : k < ys.length := by have := hl'.out; omega
        obtain ⟨b, off, rfl, hb⟩ := h3 k hlt
        obtain ⟨b', off', rfl, hb'⟩ := g3 k hlt2
        have x1 := (hu.str_at hlt).1
        have x2 := (hv.str_at hlt2).1
        have z1 := blk x1
        have z2 := blk x2
        have hT := Lib.hid ht
        clear h3 g3 ht
        go_wp2_with fail
        refine wp_region_grown (by kernel_rfl) (by kernel_rfl) ?_
        repeat (go_big_quiet_step (fail))
        refine wpQuiet_nil ?_
        intro _ hw'
        obtain ⟨nx, hw''⟩ := hw'
        subst hw''
        go_wp2
        · rename_i hx
          go_ret
          have hx2 : xs[k] ≠ ys[k] := str_ne (by simpa using hx)
          have E : xs ≠ ys := fun e => hx2 (by subst e; rfl)
          exact ⟨ret_bool (decide_eq_false E).symm, ((Gr.refl w).ext _).ext _⟩
        · rename_i hx
          have hx2 : xs[k] = ys[k] := str_inj (by simpa using hx)
          refine ⟨⟨k + 1, by omega, ?_, ((Gr.refl w).ext _).ext _, by go_num⟩, by simp [intOf]; omega⟩
          rw [List.take_succ_eq_append_getElem hlt, List.take_succ_eq_append_getElem hlt2, hT.out, hx2]
      · have hk2 : k = xs.length := by omega
        subst hk2
        have e : xs = ys := by
          have h := ht
          have h' := hl'.out
          rw [List.take_length, h', List.take_length] at h
          exact h
        have E := Lib.hid e
        clear e ht
        go_wp2
        go_ret
        exact ⟨ret_bool (decide_eq_true E.out).symm, (Gr.refl w).ext _⟩
  · have hne : ((xs.length : Int) != (ys.length : Int)) = true := by simp; omega
    have e : xs ≠ ys := fun e => hl (by rw [e])
    have E := Lib.hid e
    clear e hl
    go_enter Tryz.func130, Tryz.ntmps130
    go_wp2
    go_ret
    exact ⟨ret_bool (decide_eq_false E.out).symm, Gr.refl w⟩


set_option maxHeartbeats 400000 in
theorem toStringS_any (fp : List Nat) (u : Value) (xs : List ByteArray) (w : World) (hu : SlR fp w u xs) (hlen : xs.length ≤ 1048576) :
    Calls Tryz.prog 121 #[u] w fun e w' => ∃ v fq, e = .returned v ∧ SlR fq w' v xs ∧ Fresh w fq ∧ Gr w w' := by
  obtain ⟨a, ca, rfl, h1, h2, h3⟩ := hu.open
  obtain ⟨i0, hi, hz0, hz1, hz2⟩ := info_parts Tryz.infoStrG
  have hmk := fun (W : World) => run_make (P := Tryz.prog) W 97 9 i0 (.string ByteArray.empty) Tryz.underlying97 hi hz0 .i64 .i64 xs.length xs.length (by omega) (by omega) (by rw [hz2]; omega) (by omega)
  rw [hz1] at hmk
  clear hi hz0 hz1 hz2
  simp only [Int.toNat_natCast, Nat.mul_one] at hmk
  have hms := size_madeCells (Value.string ByteArray.empty).cells xs.length
  generalize madeCells (Value.string ByteArray.empty).cells xs.length = C0 at hmk hms
  have HS := Lib.hid hms
  clear hms
  go_enter Tryz.func121, Tryz.ntmps121
  go_wp2
  go_loopw [4] (fun s4 wr => ∃ (k : Nat) (C : Array Value), k ≤ xs.length ∧ C.size = xs.length ∧ (∀ j (h : j < xs.length), j < k → C[j]? = some (.string xs[j])) ∧ wr = w.alloc (.cells C 9) ∧ s4 = .int .i64 k) (fun s4 _ => xs.length - (intOf s4).toNat)
  case atStart => exact ⟨0, C0, by omega, HS.out, by omega, rfl, rfl⟩
  case round =>
    obtain ⟨k, C, hk, hC, ht, rfl, rfl⟩ := hrel
    have hT := Lib.hid ht
    have hCs := Lib.hid hC
    by_cases hlt : k < xs.length
    · obtain ⟨b, off, rfl, hb⟩ := h3 k hlt
      have x1 := (hu.str_at hlt).1
      have y1 : k < C.size := by omega
      clear ht hC h3
      go_wp2
      refine ⟨⟨k + 1, _, by omega, by simp [hCs.out], fun j hj hjk => ?_, rfl, by go_num⟩, by simp [intOf]; omega⟩
      rw [Array.getElem?_setIfInBounds]
      split
      · rename_i e; subst e; rfl
      · exact hT.out j hj (by omega)
    · have hk2 : k = xs.length := by omega
      subst hk2
      have hW : ∀ j (hj : j < xs.length), xs[j].size ≤ maxLen := fun j hj => by
        obtain ⟨b, off, rfl, hb⟩ := h3 j hj
        exact (hu.str_at hj).2
      obtain ⟨fq, hs, hf⟩ := SlR.flat (w := w.alloc (.cells C 9)) (b := w.heap.size) (C := C) (t := 9) (cap := xs.length) (xs := xs) (heap_alloc_new w _) rfl
        (fun j hj => ⟨_, ht j hj hj, rfl, rfl, hW j hj⟩) (Nat.le_refl _) (by unfold reachLen; omega)
      have HF := Lib.hid hs
      clear hs ht hC
      go_wp2
      go_ret
      exact ⟨_, fq, rfl, HF.out, Fresh.of_flat hf (Nat.le_refl _), (Gr.refl w).alloc _⟩


set_option maxHeartbeats 1000000 in
theorem szStringS_any (fp : List Nat) (u : Value) (xs : List ByteArray) (left : Int) (w : World) (hu : SlR fp w u xs) (h0 : 0 ≤ left) (h1 : left ≤ 1048576) :
    Calls Tryz.prog 113 #[u, .int .i64 left] w fun e w' => e = .returned (.int .i64 (less left (wtStringS xs))) ∧ Gr w w' := by
  obtain ⟨a, ca, rfl, g1, g2, g3⟩ := hu.open
  by_cases hneg : left - xs.length < 0
  · have hle : less left (wtStringS xs) = -1 := by unfold less wtStringS wtL; rw [if_pos (by omega)]
    have HL := Lib.hid hle
    clear hle
    go_enter Tryz.func113, Tryz.ntmps113
    go_wp2
    go_ret
    exact ⟨ret_int HL.out.symm, Gr.refl w⟩
  · have hl0 : less left xs.length = left - xs.length := by unfold less; rw [if_neg hneg]
    have HL0 := Lib.hid hl0
    clear hl0
    go_enter Tryz.func113, Tryz.ntmps113
    go_wp2
    go_loopw [5, 1] (fun s5 s1 wr => ∃ (k : Nat) (m : Int), k ≤ xs.length ∧ 0 ≤ m ∧ m ≤ 1048576 ∧ Hid (m = less left (xs.length + ((xs.take k).map ByteArray.size).sum)) ∧ Gr w wr ∧ s5 = .int .i64 k ∧ s1 = .int .i64 m) (fun s5 _ _ => xs.length - (intOf s5).toNat)
    case atStart => exact ⟨0, _, by omega, by omega, by omega, Lib.hid (by simp [HL0.out]), Gr.refl w, rfl, rfl⟩
    case round =>
      obtain ⟨k, m, hk, hm0, hm1, hm, ⟨x, rfl⟩, rfl, rfl⟩ := hrel
      by_cases hlt : k < xs.length
      · obtain ⟨b, off, rfl, hb⟩ := g3 k hlt
        have hsum := Lib.hid (sum_take_succ ByteArray.size xs k hlt)
        obtain ⟨z0, hsz⟩ := hu.str_at hlt
        obtain ⟨s, hs⟩ : ∃ s, s = xs[k] := ⟨_, rfl⟩
        rw [← hs] at z0 hsz hsum
        unfold maxLen at hsz
        have HE := Lib.hid hs
        clear g3 hs
        by_cases hx : m - s.size < 0
        · go_wp2_with fail
          go_ret
          refine ⟨ret_int ?_, (by repeat (first | exact Gr.refl _ | apply Gr.ext | apply Gr.alloc | apply Gr.drew))⟩
          have e := hm.out
          subst e
          have hx2 : less (less left (xs.length + ((xs.take k).map ByteArray.size).sum)) s.size < 0 := by unfold less; unfold less at hx hm0; split at hx <;> split <;> omega
          rw [less_less, Nat.add_assoc, ← hsum.out] at hx2
          exact (less_mono hx2 (Nat.add_le_add_left (sum_take_le ByteArray.size xs (k + 1)) _) h0).symm
        · have hx1 : 0 ≤ m - s.size := by omega
          go_wp2_with fail
          refine ⟨⟨k + 1, m - s.size, by omega, hx1, by omega, Lib.hid ?_, (by repeat (first | exact Gr.refl _ | apply Gr.ext | apply Gr.alloc | apply Gr.drew)), by go_num, rfl⟩, by simp [intOf]; omega⟩
          rw [hsum.out, ← Nat.add_assoc, ← less_less, ← hm.out]
          unfold less
          rw [if_neg hx]
      · have hk2 : k = xs.length := by omega
        subst hk2
        have hm2 := hm.out
        rw [List.take_length] at hm2
        have HM := Lib.hid hm2
        clear hm2 hm
        go_wp2
        go_ret
        exact ⟨ret_int HM.out, (by repeat (first | exact Gr.refl _ | apply Gr.ext | apply Gr.alloc | apply Gr.drew))⟩
end Go.Proofs.YtbfmeiooeaaibaaGreat
