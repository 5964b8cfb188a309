/- Contracts of the functions that measure, compare and copy: Entry*, Memo. Made by mk_fam.py. No condition. -/
import Derived.Test.YtbfmeiooeaaibaaGreatFamEntryA
namespace Go.Proofs.YtbfmeiooeaaibaaGreat
open Go.RowKit

def wtEntryS (xs : List GEntry) : Nat := wtL wtEntry xs

set_option maxHeartbeats 1000000 in
theorem szEntryS_any (fp : List Nat) (u : Value) (xs : List GEntry) (left : Int) (w : World) (hu : SlR fp w u xs) (h0 : 0 ≤ left) (h1 : left ≤ 1048576) :
    Calls Tryz.prog 60 #[u, .int .i64 left] w fun e w' => e = .returned (.int .i64 (less left (wtEntryS xs))) ∧ Gr w w' := by
  obtain ⟨a, ca, rfl, g1, g2, g3⟩ := hu.open
  by_cases hneg : left - xs.length < 0
  · have hle : less left (wtEntryS xs) = -1 := by unfold less wtEntryS wtL; rw [if_pos (by omega)]
    have HL := Lib.hid hle
    clear hle
    go_enter Tryz.func60, Tryz.ntmps60
    go_wp2
    go_ret
    exact ⟨ret_int HL.out.symm, Gr.refl w⟩
  · have hl0 : less left xs.length = left - xs.length := by unfold less; rw [if_neg hneg]
    have HL0 := Lib.hid hl0
    clear hl0
    go_enter Tryz.func60, Tryz.ntmps60
    go_wp2
    go_loopw [5, 1] (fun s5 s1 wr => ∃ (k : Nat) (m : Int), k ≤ xs.length ∧ 0 ≤ m ∧ m ≤ 1048576 ∧ Hid (m = less left (xs.length + ((xs.take k).map wtEntry).sum)) ∧ Gr w wr ∧ s5 = .int .i64 k ∧ s1 = .int .i64 m) (fun s5 _ _ => xs.length - (intOf s5).toNat)
    case atStart => exact ⟨0, _, by omega, by omega, by omega, Lib.hid (by simp [HL0.out]), Gr.refl w, rfl, rfl⟩
    case round =>
      obtain ⟨k, m, hk, hm0, hm1, hm, ⟨x, rfl⟩, rfl, rfl⟩ := hrel
      by_cases hlt : k < xs.length
      · obtain ⟨b, off, rfl, hb⟩ := g3 k hlt
        have hsum := Lib.hid (sum_take_succ wtEntry xs k hlt)
        obtain ⟨csq, feq, hcq, hrq, -⟩ := hu.at hlt
        have hrdq := hrq
        generalize xs[k] = yq at hrq
        obtain ⟨⟨q00, q01⟩, q1, q2, q3, q4, q5, q6, q7⟩ := yq
        obtain ⟨vq5, fq5, vq6, fq6, vq7, fq7, hcsq, -, hq00, hq01, hq1, hq2, hq3, hq4, hq5, hq6, hq7⟩ := rdEntry_inv (cs := csq.toArray) q00 q01 q1 q2 q3 q4 q5 q6 q7 (by simpa using hrq)
        obtain rfl : csq = [.int .i64 q00, .string q01, .int .i64 q1, .int .i64 q2, .int .i64 q3, .string q4, vq5, vq6, vq7] := by have := congrArg Array.toList hcsq; simpa using this
        have z0 : w.cell? ⟨b, off + k * 9, none⟩ = some (.int .i64 q00) := by simpa [Rd.n] using hcq 0 _ rfl
        have z1 : w.cell? ⟨b, off + k * 9 + 1, none⟩ = some (.string q01) := hcq 1 _ rfl
        have z2 : w.cell? ⟨b, off + k * 9 + 2, none⟩ = some (.int .i64 q1) := hcq 2 _ rfl
        have z3 : w.cell? ⟨b, off + k * 9 + 3, none⟩ = some (.int .i64 q2) := hcq 3 _ rfl
        have z4 : w.cell? ⟨b, off + k * 9 + 4, none⟩ = some (.int .i64 q3) := hcq 4 _ rfl
        have z5 : w.cell? ⟨b, off + k * 9 + 5, none⟩ = some (.string q4) := hcq 5 _ rfl
        have z6 : w.cell? ⟨b, off + k * 9 + 6, none⟩ = some (vq5) := hcq 6 _ rfl
        have z7 : w.cell? ⟨b, off + k * 9 + 7, none⟩ = some (vq6) := hcq 7 _ rfl
        have z8 : w.cell? ⟨b, off + k * 9 + 8, none⟩ = some (vq7) := hcq 8 _ rfl
        have hmono := less_le m (wtEntry xs[k]) (by omega)
        clear g3 hcsq hcq hrq
        go_wp2_with (go_at_call 105; refine (szEntry_any _ _ xs[k] _ _ (Rd.gr hrdq ((Gr.refl w).ext _)) (by omega) (by omega)).mono ?_; rintro e w1 ⟨rfl, y, rfl⟩)
        · have hx : less m (wtEntry xs[k]) < 0 := by assumption
          go_ret
          refine ⟨ret_int ?_, (by repeat (first | exact Gr.refl _ | apply Gr.ext | apply Gr.alloc | apply Gr.drew))⟩
          have e := hm.out
          subst e
          rw [less_less, Nat.add_assoc, ← hsum.out] at hx
          exact (less_mono hx (Nat.add_le_add_left (sum_take_le wtEntry xs (k + 1)) _) h0).symm
        · have hx : 0 ≤ less m (wtEntry xs[k]) := by assumption
          refine ⟨⟨k + 1, _, by omega, hx, by omega, Lib.hid ?_, (by repeat (first | exact Gr.refl _ | apply Gr.ext | apply Gr.alloc | apply Gr.drew)), by go_num, rfl⟩, by simp [intOf]; omega⟩
          rw [hsum.out, hm.out, less_less, Nat.add_assoc]
      · have hk2 : k = xs.length := by omega
        subst hk2
        have hm2 := hm.out
        rw [List.take_length] at hm2
        have HM := Lib.hid hm2
        clear hm2 hm
        go_wp2
        go_ret
        exact ⟨ret_int HM.out, (by repeat (first | exact Gr.refl _ | apply Gr.ext | apply Gr.alloc | apply Gr.drew))⟩

set_option maxHeartbeats 1000000 in
theorem eqEntryS_any (fp fq : List Nat) (u v : Value) (xs ys : List GEntry) (w : World) (hu : SlR fp w u xs) (hv : SlR fq w v ys) :
    Calls Tryz.prog 73 #[u, v] w fun e w' => e = .returned (.bool (decide (xs = ys))) ∧ Gr w w' := by
  obtain ⟨a, ca, rfl, h1, h2, h3⟩ := hu.open
  obtain ⟨c, cc, rfl, g1, g2, g3⟩ := hv.open
  by_cases hl : xs.length = ys.length
  · have hl' := Lib.hid hl
    have hne : ((xs.length : Int) != (ys.length : Int)) = false := by simp [hl]
    clear hl
    go_enter Tryz.func73, Tryz.ntmps73
    go_wp2
    go_loopw [5] (fun s5 wr => ∃ k : Nat, k ≤ xs.length ∧ xs.take k = ys.take k ∧ Gr w wr ∧ s5 = .int .i64 k) (fun s5 _ => xs.length - (intOf s5).toNat)
    case atStart => exact ⟨0, by omega, rfl, Gr.refl w, rfl⟩
    case round =>
      obtain ⟨k, hk, ht, ⟨x, rfl⟩, rfl⟩ := hrel
      by_cases hlt : k < xs.length
      · have hlt2 : k < ys.length := by have := hl'.out; omega
        obtain ⟨b, off, rfl, hb⟩ := h3 k hlt
        obtain ⟨b', off', rfl, hb'⟩ := g3 k hlt2
        obtain ⟨csq, feq, hcq, hrq, -⟩ := hu.at hlt
        have hrdq := hrq
        generalize xs[k] = yq at hrq
        obtain ⟨⟨q00, q01⟩, q1, q2, q3, q4, q5, q6, q7⟩ := yq
        obtain ⟨vq5, fq5, vq6, fq6, vq7, fq7, hcsq, -, hq00, hq01, hq1, hq2, hq3, hq4, hq5, hq6, hq7⟩ := rdEntry_inv (cs := csq.toArray) q00 q01 q1 q2 q3 q4 q5 q6 q7 (by simpa using hrq)
        obtain rfl : csq = [.int .i64 q00, .string q01, .int .i64 q1, .int .i64 q2, .int .i64 q3, .string q4, vq5, vq6, vq7] := by have := congrArg Array.toList hcsq; simpa using this
        obtain ⟨csp, fep, hcp, hrp, -⟩ := hv.at hlt2
        have hrdp := hrp
        generalize ys[k] = yp at hrp
        obtain ⟨⟨p00, p01⟩, p1, p2, p3, p4, p5, p6, p7⟩ := yp
        obtain ⟨vp5, fp5, vp6, fp6, vp7, fp7, hcsp, -, hp00, hp01, hp1, hp2, hp3, hp4, hp5, hp6, hp7⟩ := rdEntry_inv (cs := csp.toArray) p00 p01 p1 p2 p3 p4 p5 p6 p7 (by simpa using hrp)
        obtain rfl : csp = [.int .i64 p00, .string p01, .int .i64 p1, .int .i64 p2, .int .i64 p3, .string p4, vp5, vp6, vp7] := by have := congrArg Array.toList hcsp; simpa using this
        have z0 : w.cell? ⟨b, off + k * 9, none⟩ = some (.int .i64 q00) := by simpa [Rd.n] using hcq 0 _ rfl
        have z1 : w.cell? ⟨b, off + k * 9 + 1, none⟩ = some (.string q01) := hcq 1 _ rfl
        have z2 : w.cell? ⟨b, off + k * 9 + 2, none⟩ = some (.int .i64 q1) := hcq 2 _ rfl
        have z3 : w.cell? ⟨b, off + k * 9 + 3, none⟩ = some (.int .i64 q2) := hcq 3 _ rfl
        have z4 : w.cell? ⟨b, off + k * 9 + 4, none⟩ = some (.int .i64 q3) := hcq 4 _ rfl
        have z5 : w.cell? ⟨b, off + k * 9 + 5, none⟩ = some (.string q4) := hcq 5 _ rfl
        have z6 : w.cell? ⟨b, off + k * 9 + 6, none⟩ = some (vq5) := hcq 6 _ rfl
        have z7 : w.cell? ⟨b, off + k * 9 + 7, none⟩ = some (vq6) := hcq 7 _ rfl
        have z8 : w.cell? ⟨b, off + k * 9 + 8, none⟩ = some (vq7) := hcq 8 _ rfl
        have zz0 : w.cell? ⟨b', off' + k * 9, none⟩ = some (.int .i64 p00) := by simpa [Rd.n] using hcp 0 _ rfl
        have zz1 : w.cell? ⟨b', off' + k * 9 + 1, none⟩ = some (.string p01) := hcp 1 _ rfl
        have zz2 : w.cell? ⟨b', off' + k * 9 + 2, none⟩ = some (.int .i64 p1) := hcp 2 _ rfl
        have zz3 : w.cell? ⟨b', off' + k * 9 + 3, none⟩ = some (.int .i64 p2) := hcp 3 _ rfl
        have zz4 : w.cell? ⟨b', off' + k * 9 + 4, none⟩ = some (.int .i64 p3) := hcp 4 _ rfl
        have zz5 : w.cell? ⟨b', off' + k * 9 + 5, none⟩ = some (.string p4) := hcp 5 _ rfl
        have zz6 : w.cell? ⟨b', off' + k * 9 + 6, none⟩ = some (vp5) := hcp 6 _ rfl
        have zz7 : w.cell? ⟨b', off' + k * 9 + 7, none⟩ = some (vp6) := hcp 7 _ rfl
        have zz8 : w.cell? ⟨b', off' + k * 9 + 8, none⟩ = some (vp7) := hcp 8 _ rfl
        have hT := Lib.hid ht
        clear h3 g3 ht hcsq hcsp hcq hcp hrq hrp
        go_wp2_with fail
        refine wp_region_grown (by kernel_rfl) (by kernel_rfl) ?_
        repeat (go_big_quiet_step ((go_at_call 14; refine grown_call (eqEntry_any _ _ _ _ xs[k] ys[k] _ (Rd.gr hrdq ?_) (Rd.gr hrdp ?_)) <;> exact ((Gr.refl w).ext _).ext _)))
        refine wpQuiet_nil ?_
        intro _ hw'
        obtain ⟨nx, hw''⟩ := hw'
        subst hw''
        go_wp2
        · have ht : (!decide (xs[k] = ys[k])) = true := by assumption
          go_ret
          have E : xs ≠ ys := fun e => dec_ne ht (by subst e; rfl)
          exact ⟨ret_bool (decide_eq_false E).symm, (by repeat (first | exact Gr.refl _ | apply Gr.ext | apply Gr.alloc | apply Gr.drew))⟩
        · have ht : (!decide (xs[k] = ys[k])) = false := by assumption
          have e2 := dec_eq ht
          refine ⟨⟨k + 1, by omega, ?_, (by repeat (first | exact Gr.refl _ | apply Gr.ext | apply Gr.alloc | apply Gr.drew)), by go_num⟩, by simp [intOf]; omega⟩
          rw [List.take_succ_eq_append_getElem hlt, List.take_succ_eq_append_getElem hlt2, hT.out, e2]
      · have hk2 : k = xs.length := by omega
        subst hk2
        have e : xs = ys := by
          have h := ht
          have h' := hl'.out
          rw [List.take_length, h', List.take_length] at h
          exact h
        have E := Lib.hid e
        clear e ht
        go_wp2
        go_ret
        exact ⟨ret_bool (decide_eq_true E.out).symm, (by repeat (first | exact Gr.refl _ | apply Gr.ext | apply Gr.alloc | apply Gr.drew))⟩
  · have hne : ((xs.length : Int) != (ys.length : Int)) = true := by simp; omega
    have e : xs ≠ ys := fun e => hl (by rw [e])
    have E := Lib.hid e
    clear e hl
    go_enter Tryz.func73, Tryz.ntmps73
    go_wp2
    go_ret
    exact ⟨ret_bool (decide_eq_false E.out).symm, Gr.refl w⟩

theorem Tryz.infoEntry : (Tryz.prog.info? 38).map (fun i => (i.zero, i.size, i.bytes)) = some (some (.agg #[.int .i64 0, .string ByteArray.empty, .int .i64 0, .int .i64 0, .int .i64 0, .string ByteArray.empty, .slice none 0 0, .slice none 0 0, .slice none 0 0]), 9, 136) := by kernel_rfl

set_option maxHeartbeats 4000000 in
theorem toEntryS_any (fp : List Nat) (u : Value) (xs : List GEntry) (w : World) (hu : SlR fp w u xs) (hlen : wtEntryS xs ≤ 1048576) :
    Calls Tryz.prog 66 #[u] w fun e w' => ∃ v fq, e = .returned v ∧ SlR fq w' v xs ∧ Fresh w fq ∧ Gr w w' := by
  obtain ⟨a, ca, rfl, h1, h2, h3⟩ := hu.open
  have hll : xs.length ≤ 1048576 := Nat.le_trans (wtL_len wtEntry xs) hlen
  obtain ⟨i0, hi, hz0, hz1, hz2⟩ := info_parts Tryz.infoEntry
  have hmk := fun (W : World) => run_make (P := Tryz.prog) W 63 38 i0 (.agg #[.int .i64 0, .string ByteArray.empty, .int .i64 0, .int .i64 0, .int .i64 0, .string ByteArray.empty, .slice none 0 0, .slice none 0 0, .slice none 0 0]) Tryz.underlying63 hi hz0 .i64 .i64 xs.length xs.length (by omega) (by omega) (by rw [hz2]; omega) (by omega)
  rw [hz1] at hmk
  clear hi hz0 hz1 hz2
  simp only [Int.toNat_natCast] at hmk
  have hms := size_madeCells (Value.agg #[.int .i64 0, .string ByteArray.empty, .int .i64 0, .int .i64 0, .int .i64 0, .string ByteArray.empty, .slice none 0 0, .slice none 0 0, .slice none 0 0]).cells (xs.length * 9)
  generalize madeCells (Value.agg #[.int .i64 0, .string ByteArray.empty, .int .i64 0, .int .i64 0, .int .i64 0, .string ByteArray.empty, .slice none 0 0, .slice none 0 0, .slice none 0 0]).cells (xs.length * 9) = C0 at hmk hms
  have HS := Lib.hid hms
  have HLS := Lib.hid hlen
  clear hms hlen
  go_enter Tryz.func66, Tryz.ntmps66
  go_wp2
  go_loopw [4] (fun s4 wr => ∃ (k : Nat) (C : Array Value) (x : Ext) (fps : List (List Nat)), C.size = xs.length * 9 ∧ PartR w w.heap.size wr C k fps xs ∧ wr = (w.alloc (.cells C 38)).ext x ∧ s4 = .int .i64 k) (fun s4 _ => xs.length - (intOf s4).toNat)
  case atStart => exact ⟨0, C0, ⟨#[], 0⟩, [], HS.out, PartR.start _ _ (Nat.le_refl _) (by simp), (ext_zero _).symm, rfl⟩
  case round =>
    obtain ⟨k, C, x, fps, hC, hp, rfl, rfl⟩ := hrel
    have hCs := Lib.hid hC
    have hk := hp.le
    by_cases hlt : k < xs.length
    · obtain ⟨b, off, rfl, hb⟩ := h3 k hlt
      have hwk := wtL_at wtEntry xs hlt
      obtain ⟨csq, feq, hcq, hrq, -⟩ := hu.at hlt
      have hrdq := hrq
      generalize xs[k] = yq at hrq
      obtain ⟨⟨q00, q01⟩, q1, q2, q3, q4, q5, q6, q7⟩ := yq
      obtain ⟨vq5, fq5, vq6, fq6, vq7, fq7, hcsq, -, hq00, hq01, hq1, hq2, hq3, hq4, hq5, hq6, hq7⟩ := rdEntry_inv (cs := csq.toArray) q00 q01 q1 q2 q3 q4 q5 q6 q7 (by simpa using hrq)
      obtain rfl : csq = [.int .i64 q00, .string q01, .int .i64 q1, .int .i64 q2, .int .i64 q3, .string q4, vq5, vq6, vq7] := by have := congrArg Array.toList hcsq; simpa using this
      have z0 : w.cell? ⟨b, off + k * 9, none⟩ = some (.int .i64 q00) := by simpa [Rd.n] using hcq 0 _ rfl
      have z1 : w.cell? ⟨b, off + k * 9 + 1, none⟩ = some (.string q01) := hcq 1 _ rfl
      have z2 : w.cell? ⟨b, off + k * 9 + 2, none⟩ = some (.int .i64 q1) := hcq 2 _ rfl
      have z3 : w.cell? ⟨b, off + k * 9 + 3, none⟩ = some (.int .i64 q2) := hcq 3 _ rfl
      have z4 : w.cell? ⟨b, off + k * 9 + 4, none⟩ = some (.int .i64 q3) := hcq 4 _ rfl
      have z5 : w.cell? ⟨b, off + k * 9 + 5, none⟩ = some (.string q4) := hcq 5 _ rfl
      have z6 : w.cell? ⟨b, off + k * 9 + 6, none⟩ = some (vq5) := hcq 6 _ rfl
      have z7 : w.cell? ⟨b, off + k * 9 + 7, none⟩ = some (vq6) := hcq 7 _ rfl
      have z8 : w.cell? ⟨b, off + k * 9 + 8, none⟩ = some (vq7) := hcq 8 _ rfl
      have y0 : k * 9 < C.size := by omega
      have y1 : k * 9 + 1 < C.size := by omega
      have y2 : k * 9 + 2 < C.size := by omega
      have y3 : k * 9 + 3 < C.size := by omega
      have y4 : k * 9 + 4 < C.size := by omega
      have y5 : k * 9 + 5 < C.size := by omega
      have y6 : k * 9 + 6 < C.size := by omega
      have y7 : k * 9 + 7 < C.size := by omega
      have y8 : k * 9 + 8 < C.size := by omega
      have hwl : wtEntry xs[k] ≤ 1048576 := Nat.le_trans hwk HLS.out
      have hd0 : k * 9 + 9 ≤ C.size := by omega
      have HD := Lib.hid hd0
      clear hC h3 hcsq hcq hrq hwk hd0
      go_wp2_with (go_at_call 108; refine (toEntry_any _ _ xs[k] _ (Rd.gr hrdq (by repeat (first | exact Gr.refl _ | apply Gr.ext | apply Gr.alloc | apply Gr.drew))) (by omega)).mono ?_; rintro e w1 ⟨ds, fq, rfl, hs, hf, y, rfl⟩; have hs2 := hs; generalize xs[k] = yr at hs2; obtain ⟨⟨r00, r01⟩, r1, r2, r3, r4, r5, r6, r7⟩ := yr; obtain ⟨vr5, fr5, vr6, fr6, vr7, fr7, rfl, hfq, kr00, kr01, kr1, kr2, kr3, kr4, kr5, kr6, kr7⟩ := rdEntry_inv r00 r01 r1 r2 r3 r4 r5 r6 r7 hs2; obtain ⟨aar5, ccr5, rfl, -, -, -⟩ := kr5.open; obtain ⟨aar6, ccr6, rfl, -, -, -⟩ := kr6.open; obtain ⟨aar7, ccr7, rfl, -, -, -⟩ := kr7.open; clear hfq)
      rw [ext_ext, ← setRow_9]
      refine ⟨⟨k + 1, setRow C (k * 9) [.int .i64 r00, .string r01, .int .i64 r1, .int .i64 r2, .int .i64 r3, .string r4, .slice aar5 r5.length ccr5, .slice aar6 r6.length ccr6, .slice aar7 r7.length ccr7], x.comp y, fps ++ [fq], ?_, ?_, rfl, by go_num⟩, by simp [intOf]; omega⟩
      · rw [setRow_size]; exact hCs.out
      · refine hp.step_own hlt (C' := setRow C (k * 9) [.int .i64 r00, .string r01, .int .i64 r1, .int .i64 r2, .int .i64 r3, .string r4, .slice aar5 r5.length ccr5, .slice aar6 r6.length ccr6, .slice aar7 r7.length ccr7]) (cs := [.int .i64 r00, .string r01, .int .i64 r1, .int .i64 r2, .int .i64 r3, .string r4, .slice aar5 r5.length ccr5, .slice aar6 r6.length ccr6, .slice aar7 r7.length ccr7]) ?_ hf (fun j hj => setRow_lt _ _ _ _ hj) (setRow_get _ _ _ HD.out)
        exact hs
    · have hk2 : k = xs.length := by omega
      subst hk2
      obtain ⟨fq, hs, hf⟩ := hp.done (heap_own_self _ x) (cap := xs.length) (Nat.le_refl _) (by unfold reachLen; omega)
      have HF := Lib.hid hs
      clear hs hC
      go_wp2
      go_ret
      exact ⟨_, fq, rfl, HF.out, hf, (by repeat (first | exact Gr.refl _ | apply Gr.ext | apply Gr.alloc | apply Gr.drew))⟩

abbrev GMemo := List GEntry × List GInstance
def wtMemo (x : GMemo) : Nat := wtEntryS x.1 + wtInstanceS x.2

theorem rdMemo_inv {fp : List Nat} {w : World} {cs : Array Value} (q0 : List GEntry) (q1 : List GInstance) (h : Rd.rd (α := GMemo) fp w cs.toList (q0, q1)) :
    ∃ vq0 fq0 vq1 fq1, cs = #[vq0, vq1] ∧ fp = (fq0 ++ fq1) ∧ SlR fq0 w vq0 q0 ∧ SlR fq1 w vq1 q1 := by
  generalize hcs : cs.toList = l at h
  obtain ⟨_, _, _, _, rfl, rfl, ⟨vq0, rfl, hq0⟩, ⟨vq1, rfl, hq1⟩⟩ := h
  exact ⟨_, _, _, _, Array.toList_inj.1 (by simpa using hcs), rfl, hq0, hq1⟩

theorem rdMemo_shape {fp : List Nat} {w : World} {cs : Array Value} {x : GMemo} (h : Rd.rd (α := GMemo) fp w cs.toList x) :
    ∃ aq0 lq0 cq0 aq1 lq1 cq1, cs = #[.slice aq0 lq0 cq0, .slice aq1 lq1 cq1] := by
  obtain ⟨q0, q1⟩ := x
  obtain ⟨vq0, fq0, vq1, fq1, rfl, -, hq0, hq1⟩ := rdMemo_inv q0 q1 h
  obtain ⟨aq0, cq0, rfl, -, -, -⟩ := hq0.open
  obtain ⟨aq1, cq1, rfl, -, -, -⟩ := hq1.open
  exact ⟨_, _, _, _, _, _, rfl⟩

theorem rdMemo_mk {w : World} (q0 : List GEntry) (q1 : List GInstance) {vq0 : Value} {fq0 : List Nat} {vq1 : Value} {fq1 : List Nat} (hq0 : SlR fq0 w vq0 q0) (hq1 : SlR fq1 w vq1 q1) :
    Rd.rd (α := GMemo) ((fq0 ++ fq1)) w [vq0, vq1] (q0, q1) := ⟨_, _, _, _, rfl, rfl, ⟨_, rfl, hq0⟩, ⟨_, rfl, hq1⟩⟩

set_option maxHeartbeats 1000000 in
theorem szMemo_any (fp : List Nat) (cs : Array Value) (x : GMemo) (left : Int) (w : World) (hx : Rd.rd fp w cs.toList x) (h0 : 0 ≤ left) (h1 : left ≤ 1048576) :
    Calls Tryz.prog 21 #[.agg cs, .int .i64 left] w fun e w' => e = .returned (.int .i64 (less left (wtMemo x))) ∧ Gr w w' := by
  obtain ⟨q0, q1⟩ := x
  obtain ⟨vq0, fq0, vq1, fq1, rfl, -, hq0, hq1⟩ := rdMemo_inv q0 q1 hx
  obtain ⟨aq0, cq0, rfl, bq0, dq0, -⟩ := hq0.open
  obtain ⟨aq1, cq1, rfl, bq1, dq1, -⟩ := hq1.open
  have hwt : wtMemo (q0, q1) = (wtEntryS q0) + (wtInstanceS q1) := by rfl
  have HW := Lib.hid hwt
  clear hwt hx
  go_enter Tryz.func21, Tryz.ntmps21
  go_wp2_with fail
  refine (szEntryS_any fq0 _ _ _ _ (hq0.gr (by repeat (first | exact Gr.refl _ | apply Gr.ext | apply Gr.alloc | apply Gr.drew))) (by omega) (by omega)).mono ?_
  rintro e w0 ⟨rfl, x0, rfl⟩
  have hb0 := less_le (left) (wtEntryS q0) (by omega)
  go_wp2_with fail
  · go_ret
    refine ⟨ret_int ?_, (by repeat (first | exact Gr.refl _ | apply Gr.ext | apply Gr.alloc | apply Gr.drew))⟩
    have := less_cases left (wtMemo (q0, q1))
    have := HW.out
    have := less_cases (left) (wtEntryS q0)
    omega
  · skip
    refine (szInstanceS_any fq1 _ _ _ _ (hq1.gr (by repeat (first | exact Gr.refl _ | apply Gr.ext | apply Gr.alloc | apply Gr.drew))) (by have := less_cases (left) (wtEntryS q0); omega) (by have := less_cases (left) (wtEntryS q0); omega)).mono ?_
    rintro e w1 ⟨rfl, x1, rfl⟩
    have hb1 := less_le (less (left) (wtEntryS q0)) (wtInstanceS q1) (by have := less_cases (left) (wtEntryS q0); omega)
    go_wp2_with fail
    · go_ret
      refine ⟨ret_int ?_, (by repeat (first | exact Gr.refl _ | apply Gr.ext | apply Gr.alloc | apply Gr.drew))⟩
      have := less_cases left (wtMemo (q0, q1))
      have := HW.out
      have := less_cases (left) (wtEntryS q0)
      have := less_cases (less (left) (wtEntryS q0)) (wtInstanceS q1)
      omega
    · skip
      go_ret
      refine ⟨ret_int ?_, (by repeat (first | exact Gr.refl _ | apply Gr.ext | apply Gr.alloc | apply Gr.drew))⟩
      have := less_cases left (wtMemo (q0, q1))
      have := HW.out
      have := less_cases (left) (wtEntryS q0)
      have := less_cases (less (left) (wtEntryS q0)) (wtInstanceS q1)
      omega

theorem Memo_ext (q0 : List GEntry) (q1 : List GInstance) (p0 : List GEntry) (p1 : List GInstance) (e0 : q0 = p0) (e1 : q1 = p1) : ((q0, q1) : GMemo) = (p0, p1) := by
  exact Prod.ext_iff.2 ⟨e0, e1⟩

set_option maxHeartbeats 1000000 in
theorem eqMemo_any (fp fq : List Nat) (cs ds : Array Value) (x y : GMemo) (w : World) (hx : Rd.rd fp w cs.toList x) (hy : Rd.rd fq w ds.toList y) :
    Calls Tryz.prog 25 #[.agg cs, .agg ds] w fun e w' => e = .returned (.bool (decide (x = y))) ∧ Gr w w' := by
  obtain ⟨q0, q1⟩ := x
  obtain ⟨p0, p1⟩ := y
  obtain ⟨vq0, fq0, vq1, fq1, rfl, -, hq0, hq1⟩ := rdMemo_inv q0 q1 hx
  obtain ⟨vp0, fp0, vp1, fp1, rfl, -, hp0, hp1⟩ := rdMemo_inv p0 p1 hy
  obtain ⟨aq0, cq0, rfl, -, -, -⟩ := hq0.open
  obtain ⟨aq1, cq1, rfl, -, -, -⟩ := hq1.open
  obtain ⟨ap0, cp0, rfl, -, -, -⟩ := hp0.open
  obtain ⟨ap1, cp1, rfl, -, -, -⟩ := hp1.open
  clear hx hy
  go_enter Tryz.func25, Tryz.ntmps25
  go_wp2_with fail
  refine (eqEntryS_any fq0 fp0 _ _ q0 p0 _ (hq0.gr (by repeat (first | exact Gr.refl _ | apply Gr.ext | apply Gr.alloc | apply Gr.drew))) (hp0.gr (by repeat (first | exact Gr.refl _ | apply Gr.ext | apply Gr.alloc | apply Gr.drew)))).mono ?_
  rintro e w0 ⟨rfl, x0, rfl⟩
  go_wp2_with fail
  · have ht : (!decide (q0 = p0)) = true := by assumption
    go_ret
    exact ⟨ret_bool (decide_eq_false fun e => dec_ne ht (congrArg (fun z : GMemo => z.1) e)).symm, (by repeat (first | exact Gr.refl _ | apply Gr.ext | apply Gr.alloc | apply Gr.drew))⟩
  · skip
    have e0 := Lib.hid (dec_eq (show (!decide (q0 = p0)) = false by assumption))
    refine (eqInstanceS_any fq1 fp1 _ _ q1 p1 _ (hq1.gr (by repeat (first | exact Gr.refl _ | apply Gr.ext | apply Gr.alloc | apply Gr.drew))) (hp1.gr (by repeat (first | exact Gr.refl _ | apply Gr.ext | apply Gr.alloc | apply Gr.drew)))).mono ?_
    rintro e w1 ⟨rfl, x1, rfl⟩
    go_wp2_with fail
    · have ht : (!decide (q1 = p1)) = true := by assumption
      go_ret
      exact ⟨ret_bool (decide_eq_false fun e => dec_ne ht (congrArg (fun z : GMemo => z.2) e)).symm, (by repeat (first | exact Gr.refl _ | apply Gr.ext | apply Gr.alloc | apply Gr.drew))⟩
    · skip
      have e1 := Lib.hid (dec_eq (show (!decide (q1 = p1)) = false by assumption))
      go_ret
      exact ⟨ret_bool (decide_eq_true (Memo_ext q0 q1 p0 p1 e0.out e1.out)).symm, (by repeat (first | exact Gr.refl _ | apply Gr.ext | apply Gr.alloc | apply Gr.drew))⟩

set_option maxHeartbeats 1000000 in
theorem toMemo_any (fp : List Nat) (cs : Array Value) (x : GMemo) (w : World) (hx : Rd.rd fp w cs.toList x) (hl : wtMemo x ≤ 1048576) :
    Calls Tryz.prog 23 #[.agg cs] w fun e w' => ∃ ds fq, e = .returned (.agg ds) ∧ Rd.rd fq w' ds.toList x ∧ Fresh w fq ∧ Gr w w' := by
  obtain ⟨q0, q1⟩ := x
  obtain ⟨vq0, fq0, vq1, fq1, rfl, -, hq0, hq1⟩ := rdMemo_inv q0 q1 hx
  obtain ⟨aq0, cq0, rfl, -, -, -⟩ := hq0.open
  obtain ⟨aq1, cq1, rfl, -, -, -⟩ := hq1.open
  have hwt : wtMemo (q0, q1) = (wtEntryS q0) + (wtInstanceS q1) := by rfl
  have HW := Lib.hid hwt
  clear hwt hx
  go_enter Tryz.func23, Tryz.ntmps23
  go_wp2_with fail
  refine (toEntryS_any fq0 _ _ _ (hq0.gr (by repeat (first | exact Gr.refl _ | apply Gr.ext | apply Gr.alloc | apply Gr.drew))) (by have := HW.out; omega)).mono ?_
  rintro e w0 ⟨u0, g0, rfl, s0, fr0, x0, rfl⟩
  obtain ⟨aa0, cc0, rfl, -, -, -⟩ := s0.open
  go_wp2_with fail
  refine (toInstanceS_any fq1 _ _ _ (hq1.gr (by repeat (first | exact Gr.refl _ | apply Gr.ext | apply Gr.alloc | apply Gr.drew))) (by have := HW.out; omega)).mono ?_
  rintro e w1 ⟨u1, g1, rfl, s1, fr1, x1, rfl⟩
  obtain ⟨aa1, cc1, rfl, -, -, -⟩ := s1.open
  go_wp2_with fail
  have hfresh : Fresh w (g0 ++ g1) := by
    exact (Fresh.app (Fresh.of_le fr0 (by simp <;> omega)) (SlR.lt s0) fr1 (by simp <;> omega) (by simp <;> omega))
  exact bodyPost_ret (v := .agg #[.slice aa0 q0.length cc0, .slice aa1 q1.length cc1]) (by simp [results, Tryz.results23, go_sem]) rfl
    ⟨_, _, rfl, rdMemo_mk q0 q1 (SlR.moved s0 fr0 (by repeat (first | exact Gr.refl _ | apply Gr.ext | apply Gr.alloc | apply Gr.drew)) (by simp)) (SlR.moved s1 fr1 (by repeat (first | exact Gr.refl _ | apply Gr.ext | apply Gr.alloc | apply Gr.drew)) (by simp)), hfresh, (by repeat (first | exact Gr.refl _ | apply Gr.ext | apply Gr.alloc | apply Gr.drew))⟩

end Go.Proofs.YtbfmeiooeaaibaaGreat
