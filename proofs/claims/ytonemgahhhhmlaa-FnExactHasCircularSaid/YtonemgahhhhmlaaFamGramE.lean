/- The copy of a slice of contributions. Made by mk_fam.py. No condition. -/
import Derived.Test.YtonemgahhhhmlaaFamGramD
namespace Go.Proofs.Ytonemgahhhhmlaa
open Go.RowKit
variable {d : Nat}

theorem setRow_16 {C : Array Value} {o : Nat} {v0 v1 v2 v3 v4 v5 v6 v7 v8 v9 v10 v11 v12 v13 v14 v15 : Value} : setRow C o [v0, v1, v2, v3, v4, v5, v6, v7, v8, v9, v10, v11, v12, v13, v14, v15] = ((((((((((((((((C.setIfInBounds (o) v0).setIfInBounds (o + 1) v1).setIfInBounds (o + 2) v2).setIfInBounds (o + 3) v3).setIfInBounds (o + 4) v4).setIfInBounds (o + 5) v5).setIfInBounds (o + 6) v6).setIfInBounds (o + 7) v7).setIfInBounds (o + 8) v8).setIfInBounds (o + 9) v9).setIfInBounds (o + 10) v10).setIfInBounds (o + 11) v11).setIfInBounds (o + 12) v12).setIfInBounds (o + 13) v13).setIfInBounds (o + 14) v14).setIfInBounds (o + 15) v15) := by
  simp only [setRow, Nat.add_assoc, Nat.reduceAdd]

theorem Try.infoContribution : (Try.prog.info? 105).map (fun i => (i.zero, i.size, i.bytes)) = some (some (.agg #[.string ByteArray.empty, .string ByteArray.empty, .int .i64 0, .int .i64 0, .int .i64 0, .int .i64 0, .string ByteArray.empty, .string ByteArray.empty, .slice none 0 0, .int .i64 0, .int .i64 0, .int .i64 0, .int .i64 0, .string ByteArray.empty, .string ByteArray.empty, .slice none 0 0]), 16, 208) := by kernel_rfl

set_option maxHeartbeats 4000000 in
theorem toContributionS_any (fp : List Nat) (u : Value) (xs : List (GContribution d)) (w : World) (hu : SlR fp w u xs) (hlen : wtContributionS xs ≤ 1048576) :
    Calls Try.prog 33 #[u] w fun e w' => ∃ v fq, e = .returned v ∧ SlR fq w' v xs ∧ Fresh w fq ∧ Gr w w' := by
  obtain ⟨a, ca, rfl, h1, h2, h3⟩ := hu.open
  have hll : xs.length ≤ 1048576 := Nat.le_trans (wtL_len wtContribution xs) hlen
  obtain ⟨i0, hi, hz0, hz1, hz2⟩ := info_parts Try.infoContribution
  have hmk := fun (W : World) => run_make (P := Try.prog) W 60 105 i0 (.agg #[.string ByteArray.empty, .string ByteArray.empty, .int .i64 0, .int .i64 0, .int .i64 0, .int .i64 0, .string ByteArray.empty, .string ByteArray.empty, .slice none 0 0, .int .i64 0, .int .i64 0, .int .i64 0, .int .i64 0, .string ByteArray.empty, .string ByteArray.empty, .slice none 0 0]) Try.underlying60 hi hz0 .i64 .i64 xs.length xs.length (by omega) (by omega) (by rw [hz2]; omega) (by omega)
  rw [hz1] at hmk
  clear hi hz0 hz1 hz2
  simp only [Int.toNat_natCast] at hmk
  have hms := size_madeCells (Value.agg #[.string ByteArray.empty, .string ByteArray.empty, .int .i64 0, .int .i64 0, .int .i64 0, .int .i64 0, .string ByteArray.empty, .string ByteArray.empty, .slice none 0 0, .int .i64 0, .int .i64 0, .int .i64 0, .int .i64 0, .string ByteArray.empty, .string ByteArray.empty, .slice none 0 0]).cells (xs.length * 16)
  generalize madeCells (Value.agg #[.string ByteArray.empty, .string ByteArray.empty, .int .i64 0, .int .i64 0, .int .i64 0, .int .i64 0, .string ByteArray.empty, .string ByteArray.empty, .slice none 0 0, .int .i64 0, .int .i64 0, .int .i64 0, .int .i64 0, .string ByteArray.empty, .string ByteArray.empty, .slice none 0 0]).cells (xs.length * 16) = C0 at hmk hms
  have HS := Lib.hid hms
  have HLS := Lib.hid hlen
  clear hms hlen
  go_enter Try.func33, Try.ntmps33
  go_wp2
  go_loopw [4] (fun s4 wr => ∃ (k : Nat) (C : Array Value) (x : Ext) (fps : List (List Nat)), C.size = xs.length * 16 ∧ PartR w w.heap.size wr C k fps xs ∧ wr = (w.alloc (.cells C 105)).ext x ∧ s4 = .int .i64 k) (fun s4 _ => xs.length - (intOf s4).toNat)
  case atStart => exact ⟨0, C0, ⟨#[], 0⟩, [], HS.out, PartR.start _ _ (Nat.le_refl _) (by simp), (ext_zero _).symm, rfl⟩
  case round =>
    obtain ⟨k, C, x, fps, hC, hp, rfl, rfl⟩ := hrel
    have hCs := Lib.hid hC
    have hk := hp.le
    by_cases hlt : k < xs.length
    · obtain ⟨b, off, rfl, hb⟩ := h3 k hlt
      have hwk := wtL_at wtContribution xs hlt
      obtain ⟨csq, feq, hcq, hrq, -⟩ := hu.at hlt
      have hrdq := hrq
      generalize xs[k] = yq at hrq
      obtain ⟨q0, q1, ⟨q20, q21, q22, q23, q24, q25, q26⟩, ⟨q30, q31, q32, q33, q34, q35, q36⟩⟩ := yq
      obtain ⟨vq26, fq26, vq36, fq36, hcsq, -, hq0, hq1, hq20, hq21, hq22, hq23, hq24, hq25, hq26, hq30, hq31, hq32, hq33, hq34, hq35, hq36⟩ := rdContribution_inv (cs := csq.toArray) q0 q1 q20 q21 q22 q23 q24 q25 q26 q30 q31 q32 q33 q34 q35 q36 (by simpa using hrq)
      obtain rfl : csq = [.string q0, .string q1, .int .i64 q20, .int .i64 q21, .int .i64 q22, .int .i64 q23, .string q24, .string q25, vq26, .int .i64 q30, .int .i64 q31, .int .i64 q32, .int .i64 q33, .string q34, .string q35, vq36] := by have := congrArg Array.toList hcsq; simpa using this
      have z0 : w.cell? ⟨b, off + k * 16, none⟩ = some (.string q0) := by simpa [Rd.n] using hcq 0 _ rfl
      have z1 : w.cell? ⟨b, off + k * 16 + 1, none⟩ = some (.string q1) := hcq 1 _ rfl
      have z2 : w.cell? ⟨b, off + k * 16 + 2, none⟩ = some (.int .i64 q20) := hcq 2 _ rfl
      have z3 : w.cell? ⟨b, off + k * 16 + 3, none⟩ = some (.int .i64 q21) := hcq 3 _ rfl
      have z4 : w.cell? ⟨b, off + k * 16 + 4, none⟩ = some (.int .i64 q22) := hcq 4 _ rfl
      have z5 : w.cell? ⟨b, off + k * 16 + 5, none⟩ = some (.int .i64 q23) := hcq 5 _ rfl
      have z6 : w.cell? ⟨b, off + k * 16 + 6, none⟩ = some (.string q24) := hcq 6 _ rfl
      have z7 : w.cell? ⟨b, off + k * 16 + 7, none⟩ = some (.string q25) := hcq 7 _ rfl
      have z8 : w.cell? ⟨b, off + k * 16 + 8, none⟩ = some (vq26) := hcq 8 _ rfl
      have z9 : w.cell? ⟨b, off + k * 16 + 9, none⟩ = some (.int .i64 q30) := hcq 9 _ rfl
      have z10 : w.cell? ⟨b, off + k * 16 + 10, none⟩ = some (.int .i64 q31) := hcq 10 _ rfl
      have z11 : w.cell? ⟨b, off + k * 16 + 11, none⟩ = some (.int .i64 q32) := hcq 11 _ rfl
      have z12 : w.cell? ⟨b, off + k * 16 + 12, none⟩ = some (.int .i64 q33) := hcq 12 _ rfl
      have z13 : w.cell? ⟨b, off + k * 16 + 13, none⟩ = some (.string q34) := hcq 13 _ rfl
      have z14 : w.cell? ⟨b, off + k * 16 + 14, none⟩ = some (.string q35) := hcq 14 _ rfl
      have z15 : w.cell? ⟨b, off + k * 16 + 15, none⟩ = some (vq36) := hcq 15 _ rfl
      have y0 : k * 16 < C.size := by omega
      have y1 : k * 16 + 1 < C.size := by omega
      have y2 : k * 16 + 2 < C.size := by omega
      have y3 : k * 16 + 3 < C.size := by omega
      have y4 : k * 16 + 4 < C.size := by omega
      have y5 : k * 16 + 5 < C.size := by omega
      have y6 : k * 16 + 6 < C.size := by omega
      have y7 : k * 16 + 7 < C.size := by omega
      have y8 : k * 16 + 8 < C.size := by omega
      have y9 : k * 16 + 9 < C.size := by omega
      have y10 : k * 16 + 10 < C.size := by omega
      have y11 : k * 16 + 11 < C.size := by omega
      have y12 : k * 16 + 12 < C.size := by omega
      have y13 : k * 16 + 13 < C.size := by omega
      have y14 : k * 16 + 14 < C.size := by omega
      have y15 : k * 16 + 15 < C.size := by omega
      have hwl : wtContribution xs[k] ≤ 1048576 := Nat.le_trans hwk HLS.out
      have hd0 : k * 16 + 16 ≤ C.size := by omega
      have HD := Lib.hid hd0
      clear hC h3 hcsq hcq hrq hwk hd0
      go_wp2_with (go_at_call 45; refine (toContribution_any _ _ xs[k] _ (Rd.gr hrdq (by repeat (first | exact Gr.refl _ | apply Gr.ext | apply Gr.alloc | apply Gr.drew))) (by omega)).mono ?_; rintro e w1 ⟨ds, fq, rfl, hs, hf, y, rfl⟩; have hs2 := hs; generalize xs[k] = yr at hs2; obtain ⟨r0, r1, ⟨r20, r21, r22, r23, r24, r25, r26⟩, ⟨r30, r31, r32, r33, r34, r35, r36⟩⟩ := yr; obtain ⟨vr26, fr26, vr36, fr36, rfl, hfq, kr0, kr1, kr20, kr21, kr22, kr23, kr24, kr25, kr26, kr30, kr31, kr32, kr33, kr34, kr35, kr36⟩ := rdContribution_inv r0 r1 r20 r21 r22 r23 r24 r25 r26 r30 r31 r32 r33 r34 r35 r36 hs2; obtain ⟨aar26, ccr26, rfl, -, -, -⟩ := kr26.open; obtain ⟨aar36, ccr36, rfl, -, -, -⟩ := kr36.open; clear hfq)
      rw [ext_ext, ← setRow_16]
      refine ⟨⟨k + 1, setRow C (k * 16) [.string r0, .string r1, .int .i64 r20, .int .i64 r21, .int .i64 r22, .int .i64 r23, .string r24, .string r25, .slice aar26 r26.length ccr26, .int .i64 r30, .int .i64 r31, .int .i64 r32, .int .i64 r33, .string r34, .string r35, .slice aar36 r36.length ccr36], x.comp y, fps ++ [fq], ?_, ?_, rfl, by go_num⟩, by simp [intOf]; omega⟩
      · rw [setRow_size]; exact hCs.out
      · refine hp.step_own hlt (C' := setRow C (k * 16) [.string r0, .string r1, .int .i64 r20, .int .i64 r21, .int .i64 r22, .int .i64 r23, .string r24, .string r25, .slice aar26 r26.length ccr26, .int .i64 r30, .int .i64 r31, .int .i64 r32, .int .i64 r33, .string r34, .string r35, .slice aar36 r36.length ccr36]) (cs := [.string r0, .string r1, .int .i64 r20, .int .i64 r21, .int .i64 r22, .int .i64 r23, .string r24, .string r25, .slice aar26 r26.length ccr26, .int .i64 r30, .int .i64 r31, .int .i64 r32, .int .i64 r33, .string r34, .string r35, .slice aar36 r36.length ccr36]) ?_ hf (fun j hj => setRow_lt _ _ _ _ hj) (setRow_get _ _ _ HD.out)
        exact hs
    · have hk2 : k = xs.length := by omega
      subst hk2
      obtain ⟨fq, hs, hf⟩ := hp.done (heap_own_self _ x) (cap := xs.length) (Nat.le_refl _) (by unfold reachLen; omega)
      have HF := Lib.hid hs
      clear hs hC
      go_wp2
      go_ret
      exact ⟨_, fq, rfl, HF.out, hf, (by repeat (first | exact Gr.refl _ | apply Gr.ext | apply Gr.alloc | apply Gr.drew))⟩

end Go.Proofs.Ytonemgahhhhmlaa
