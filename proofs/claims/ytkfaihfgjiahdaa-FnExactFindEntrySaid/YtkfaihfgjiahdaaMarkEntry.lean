/- Contracts of the functions that mark and look at marks: Entry, Memo:m. Made by mk_mark.py. No condition. -/
import Derived.Test.YtkfaihfgjiahdaaMarkEntryA
namespace Go.Proofs.Ytkfaihfgjiahdaa
open Go.RowKit

/-- The marks of a value. -/
def vEntry (k : Int) : GEntry → GEntry × Int
  | ((q00, q01), q1, q2, q3, q4, q5, q6, q7) => (((q00, q01), q1, q2, q3, q4, (mIntS (k) q5).1, (mIntS ((mIntS (k) q5).2) q6).1, (mReadingS ((mIntS ((mIntS (k) q5).2) q6).2) q7).1), (mReadingS ((mIntS ((mIntS (k) q5).2) q6).2) q7).2)
theorem vEntry_bd (k : Int) (x : GEntry) : k ≤ (vEntry k x).2 ∧ (vEntry k x).2 ≤ k + 16 * (1 + wtEntry x) := by
  obtain ⟨⟨q00, q01⟩, q1, q2, q3, q4, q5, q6, q7⟩ := x
  have bq5 := mIntS_bd (k) q5
  have bq6 := mIntS_bd ((mIntS (k) q5).2) q6
  have bq7 := mReadingS_bd ((mIntS ((mIntS (k) q5).2) q6).2) q7
  have hw : wtEntry ((q00, q01), q1, q2, q3, q4, q5, q6, q7) = (wtInstance (q00, q01)) + (q4.size) + (q5.length) + (q6.length) + (wtReadingS q7) := rfl
  simp only [vEntry] at *
  omega

set_option maxHeartbeats 1000000 in
theorem markEntry_any (fp : List Nat) (cs : Array Value) (x : GEntry) (k : Int) (w : World) (hx : Rd.rd fp w cs.toList x) (hnd : fp.Nodup) (h0 : 0 < k) (h1 : (vEntry k x).2 ≤ 4398046511104) :
    Calls Try.prog 47 #[.agg cs, .int .i64 k] w fun e w' => e = .returned (.int .i64 (vEntry k x).2) ∧ Rd.rd fp w' cs.toList (vEntry k x).1 ∧ Wr fp w w' := by
  have hlt := Rd.lt hx
  obtain ⟨⟨q00, q01⟩, q1, q2, q3, q4, q5, q6, q7⟩ := x
  obtain ⟨vq5, fq5, vq6, fq6, vq7, fq7, rfl, hfq, hq00, hq01, hq1, hq2, hq3, hq4, hq5, hq6, hq7⟩ := rdEntry_inv q00 q01 q1 q2 q3 q4 q5 q6 q7 hx
  obtain rfl : fp = (([] ++ []) ++ ([] ++ ([] ++ ([] ++ ([] ++ (fq5 ++ (fq6 ++ fq7))))))) := hfq
  have m1 : (mReadingS ((mIntS ((mIntS (k) q5).2) q6).2) q7).2 ≤ 4398046511104 := h1
  have N0 : (fq5 ++ (fq6 ++ (fq7))).Nodup := by simpa only [List.nil_append, List.append_nil] using hnd
  have L0 : ∀ c ∈ (fq5 ++ (fq6 ++ (fq7))), c < w.heap.size := by simpa only [List.nil_append, List.append_nil] using hlt
  obtain ⟨uq0, N1, R0⟩ := nodup_app N0
  obtain ⟨uq1, N2, R1⟩ := nodup_app N1
  have uq5 := uq0
  have Hlq5 := Lib.hid (fun c (h : c ∈ fq5) => L0 c (by simp [h]))
  have uq6 := uq1
  have Hlq6 := Lib.hid (fun c (h : c ∈ fq6) => L0 c (by simp [h]))
  have uq7 := N2
  have Hlq7 := Lib.hid (fun c (h : c ∈ fq7) => L0 c (by simp [h]))
  have Haq5_q6 := Lib.hid (fun c (h1 : c ∈ fq5) (h2 : c ∈ fq6) => R0 c h1 (by simp [h2]))
  have Haq6_q5 := Lib.hid (fun c (h1 : c ∈ fq6) (h2 : c ∈ fq5) => R0 c h2 (by simp [h1]))
  have Haq5_q7 := Lib.hid (fun c (h1 : c ∈ fq5) (h2 : c ∈ fq7) => R0 c h1 (by simp [h2]))
  have Haq7_q5 := Lib.hid (fun c (h1 : c ∈ fq7) (h2 : c ∈ fq5) => R0 c h2 (by simp [h1]))
  have Haq6_q7 := Lib.hid (fun c (h1 : c ∈ fq6) (h2 : c ∈ fq7) => R1 c h1 (by simp [h2]))
  have Haq7_q6 := Lib.hid (fun c (h1 : c ∈ fq7) (h2 : c ∈ fq6) => R1 c h2 (by simp [h1]))
  have Huq5 := Lib.hid uq5
  have Huq6 := Lib.hid uq6
  have Huq7 := Lib.hid uq7
  have bq5 := mIntS_mono (k) q5
  have bq6 := mIntS_mono ((mIntS (k) q5).2) q6
  have bq7 := mReadingS_mono ((mIntS ((mIntS (k) q5).2) q6).2) q7
  have Sq5 := Lib.hid hq5
  obtain ⟨aq5, cq5, rfl, -, -, -⟩ := hq5.open
  have Sq6 := Lib.hid hq6
  obtain ⟨aq6, cq6, rfl, -, -, -⟩ := hq6.open
  have Sq7 := Lib.hid hq7
  obtain ⟨aq7, cq7, rfl, -, -, -⟩ := hq7.open
  have Hq00 := Lib.hid hq00
  have Hq01 := Lib.hid hq01
  have Hq1 := Lib.hid hq1
  have Hq2 := Lib.hid hq2
  have Hq3 := Lib.hid hq3
  have Hq4 := Lib.hid hq4
  clear hx hlt h1 hnd L0 hq00 hq01 hq1 hq2 hq3 hq4 hq5 hq6 hq7 uq5 uq6 uq7 R0 R1 N0
  go_enter Try.func47, Try.ntmps47
  go_wp2_with fail
  refine (markIntS_any fq5 _ q5 (k) _ (Sq5.out.gr (by repeat (first | exact Gr.refl _ | apply Gr.ext | apply Gr.alloc | apply Gr.drew))) Huq5.out (by omega) (by show (mIntS (k) q5).2 ≤ _; omega)).mono ?_
  rintro e y6 ⟨rfl, t6, r6⟩
  have T6 := Lib.hid t6
  have R6 := Lib.hid r6
  clear t6 r6
  rw [show (markL mInt (k) q5).2 = (mIntS (k) q5).2 from rfl]
  have W6 := Lib.hid ((Gr.toWr (by exact (by repeat (first | exact Gr.refl _ | apply Gr.ext | apply Gr.alloc | apply Gr.drew)) : Gr w (w.alloc (.cells #[.int .i64 q00, .string q01, .int .i64 q1, .int .i64 q2, .int .i64 q3, .string q4, .slice aq5 q5.length cq5, .slice aq6 q6.length cq6, .slice aq7 q7.length cq7] 73))) (fq5 ++ (fq6 ++ (fq7)))).trans (R6.out.sub (fun c hc => by simp [hc])))
  have Sq6x6 := Lib.hid (SlR.wr (Sq6.out.gr (by repeat (first | exact Gr.refl _ | apply Gr.ext | apply Gr.alloc | apply Gr.drew))) R6.out Haq6_q5.out)
  have Sq7x6 := Lib.hid (SlR.wr (Sq7.out.gr (by repeat (first | exact Gr.refl _ | apply Gr.ext | apply Gr.alloc | apply Gr.drew))) R6.out Haq7_q5.out)
  have e6 := R6.out.block w.heap.size (by simp) (fun h => Nat.lt_irrefl _ (Hlq5.out _ h))
  have c6 := fun (o : Nat) => World.cell?_of_block (a := ⟨w.heap.size, o, none⟩) e6
  have z7x6 : y6.cell? ⟨w.heap.size, 7, none⟩ = some (.slice aq6 q6.length cq6) := (c6 _).trans (box_cell rfl rfl)
  have z8x6 : y6.cell? ⟨w.heap.size, 8, none⟩ = some (.slice aq7 q7.length cq7) := (c6 _).trans (box_cell rfl rfl)
  have s6 := blk z7x6
  clear e6 c6
  go_wp2_with fail
  refine (markIntS_any fq6 _ q6 ((mIntS (k) q5).2) _ Sq6x6.out Huq6.out (by omega) (by show (mIntS ((mIntS (k) q5).2) q6).2 ≤ _; omega)).mono ?_
  rintro e y7 ⟨rfl, t7, r7⟩
  have T7 := Lib.hid t7
  have R7 := Lib.hid r7
  clear t7 r7
  rw [show (markL mInt ((mIntS (k) q5).2) q6).2 = (mIntS ((mIntS (k) q5).2) q6).2 from rfl]
  have W7 := Lib.hid (W6.out.trans (R7.out.sub (fun c hc => by simp [hc])))
  have Sq5x7 := Lib.hid (SlR.wr T6.out R7.out Haq5_q6.out)
  have Sq7x7 := Lib.hid (SlR.wr Sq7x6.out R7.out Haq7_q6.out)
  have e7 := R7.out.block w.heap.size s6 (fun h => Nat.lt_irrefl _ (Hlq6.out _ h))
  have c7 := fun (o : Nat) => World.cell?_of_block (a := ⟨w.heap.size, o, none⟩) e7
  have z8x7 : y7.cell? ⟨w.heap.size, 8, none⟩ = some (.slice aq7 q7.length cq7) := (c7 _).trans z8x6
  have s7 := blk z8x7
  clear e7 c7 z7x6 z8x6
  go_wp2_with fail
  refine (markReadingS_any fq7 _ q7 ((mIntS ((mIntS (k) q5).2) q6).2) _ Sq7x7.out Huq7.out (by omega) (by show (mReadingS ((mIntS ((mIntS (k) q5).2) q6).2) q7).2 ≤ _; omega)).mono ?_
  rintro e y8 ⟨rfl, t8, r8⟩
  have T8 := Lib.hid t8
  have R8 := Lib.hid r8
  clear t8 r8
  have W8 := Lib.hid (W7.out.trans (R8.out.sub (fun c hc => by simp [hc])))
  have Sq5x8 := Lib.hid (SlR.wr Sq5x7.out R8.out Haq5_q7.out)
  have Sq6x8 := Lib.hid (SlR.wr T7.out R8.out Haq6_q7.out)
  go_wp2_with fail
  go_ret
  refine ⟨rfl, ?_, W8.out.sub (fun c hc => by simpa using hc)⟩
  have hl := rdEntry_mk (q00) (q01) (q1) (q2) (q3) (q4) ((mIntS (k) q5).1) ((mIntS ((mIntS (k) q5).2) q6).1) ((mReadingS ((mIntS ((mIntS (k) q5).2) q6).2) q7).1) Hq00.out Hq01.out Hq1.out Hq2.out Hq3.out Hq4.out Sq5x8.out Sq6x8.out T8.out
  exact hl

set_option maxHeartbeats 1000000 in
theorem heldEntry_any (fp : List Nat) (cs : Array Value) (x : GEntry) (k : Int) (w : World) (hx : Rd.rd fp w cs.toList (vEntry k x).1) (h0 : 0 < k) (h1 : (vEntry k x).2 ≤ 4398046511104) :
    Calls Try.prog 48 #[.agg cs, .int .i64 k] w fun e w' => e = .returned (.int .i64 (vEntry k x).2) ∧ Gr w w' := by
  obtain ⟨⟨q00, q01⟩, q1, q2, q3, q4, q5, q6, q7⟩ := x
  obtain ⟨vq5, fq5, vq6, fq6, vq7, fq7, rfl, -, -, -, -, -, -, -, hq5, hq6, hq7⟩ := rdEntry_inv (q00) (q01) (q1) (q2) (q3) (q4) ((mIntS (k) q5).1) ((mIntS ((mIntS (k) q5).2) q6).1) ((mReadingS ((mIntS ((mIntS (k) q5).2) q6).2) q7).1) hx
  have m1 : (mReadingS ((mIntS ((mIntS (k) q5).2) q6).2) q7).2 ≤ 4398046511104 := h1
  have bq5 := mIntS_mono (k) q5
  have bq6 := mIntS_mono ((mIntS (k) q5).2) q6
  have bq7 := mReadingS_mono ((mIntS ((mIntS (k) q5).2) q6).2) q7
  have Sq5 := Lib.hid hq5
  obtain ⟨aq5, cq5, rfl, -, -, -⟩ := hq5.open
  have Sq6 := Lib.hid hq6
  obtain ⟨aq6, cq6, rfl, -, -, -⟩ := hq6.open
  have Sq7 := Lib.hid hq7
  obtain ⟨aq7, cq7, rfl, -, -, -⟩ := hq7.open
  clear hx h1 hq5 hq6 hq7
  go_enter Try.func48, Try.ntmps48
  go_wp2_with fail
  refine (heldIntS_any fq5 _ q5 (k) _ (Sq5.out.gr (by repeat (first | exact Gr.refl _ | apply Gr.ext | apply Gr.alloc | apply Gr.drew))) (by omega) (by show (mIntS (k) q5).2 ≤ _; omega)).mono ?_
  rintro e w6 ⟨rfl, x6, rfl⟩
  have nn6 : 0 ≤ (mIntS (k) q5).2 := by omega
  rw [show (markL mInt (k) q5).2 = (mIntS (k) q5).2 from rfl]
  go_wp2_with fail
  refine (heldIntS_any fq6 _ q6 ((mIntS (k) q5).2) _ (Sq6.out.gr (by repeat (first | exact Gr.refl _ | apply Gr.ext | apply Gr.alloc | apply Gr.drew))) (by omega) (by show (mIntS ((mIntS (k) q5).2) q6).2 ≤ _; omega)).mono ?_
  rintro e w7 ⟨rfl, x7, rfl⟩
  have nn7 : 0 ≤ (mIntS ((mIntS (k) q5).2) q6).2 := by omega
  rw [show (markL mInt ((mIntS (k) q5).2) q6).2 = (mIntS ((mIntS (k) q5).2) q6).2 from rfl]
  go_wp2_with fail
  refine (heldReadingS_any fq7 _ q7 ((mIntS ((mIntS (k) q5).2) q6).2) _ (Sq7.out.gr (by repeat (first | exact Gr.refl _ | apply Gr.ext | apply Gr.alloc | apply Gr.drew))) (by omega) (by show (mReadingS ((mIntS ((mIntS (k) q5).2) q6).2) q7).2 ≤ _; omega)).mono ?_
  rintro e w8 ⟨rfl, x8, rfl⟩
  have nn8 : 0 ≤ (mReadingS ((mIntS ((mIntS (k) q5).2) q6).2) q7).2 := by omega
  go_wp2_with fail
  go_ret
  exact ⟨rfl, (by repeat (first | exact Gr.refl _ | apply Gr.ext | apply Gr.alloc | apply Gr.drew))⟩

/-- The marks of a value. -/
def vMemo (k : Int) : GMemo → GMemo × Int
  | (q0, q1) => (((mEntryS (k) q0).1, (mInstanceS ((mEntryS (k) q0).2) q1).1), (mInstanceS ((mEntryS (k) q0).2) q1).2)
theorem vMemo_bd (k : Int) (x : GMemo) : k ≤ (vMemo k x).2 ∧ (vMemo k x).2 ≤ k + 16 * (1 + wtMemo x) := by
  obtain ⟨q0, q1⟩ := x
  have bq0 := mEntryS_bd (k) q0
  have bq1 := mInstanceS_bd ((mEntryS (k) q0).2) q1
  have hw : wtMemo (q0, q1) = (wtEntryS q0) + (wtInstanceS q1) := rfl
  simp only [vMemo] at *
  omega

set_option maxHeartbeats 1000000 in
theorem markMemo_any (fp : List Nat) (cs : Array Value) (x : GMemo) (k : Int) (w : World) (hx : Rd.rd fp w cs.toList x) (hnd : fp.Nodup) (h0 : 0 < k) (h1 : (vMemo k x).2 ≤ 4398046511104) :
    Calls Try.prog 38 #[.agg cs, .int .i64 k] w fun e w' => e = .returned (.int .i64 (vMemo k x).2) ∧ Rd.rd fp w' cs.toList (vMemo k x).1 ∧ Wr fp w w' := by
  have hlt := Rd.lt hx
  obtain ⟨q0, q1⟩ := x
  obtain ⟨vq0, fq0, vq1, fq1, rfl, hfq, hq0, hq1⟩ := rdMemo_inv q0 q1 hx
  obtain rfl : fp = (fq0 ++ fq1) := hfq
  have m1 : (mInstanceS ((mEntryS (k) q0).2) q1).2 ≤ 4398046511104 := h1
  have N0 : (fq0 ++ (fq1)).Nodup := by simpa only [List.nil_append, List.append_nil] using hnd
  have L0 : ∀ c ∈ (fq0 ++ (fq1)), c < w.heap.size := by simpa only [List.nil_append, List.append_nil] using hlt
  obtain ⟨uq0, N1, R0⟩ := nodup_app N0
  have uq0 := uq0
  have Hlq0 := Lib.hid (fun c (h : c ∈ fq0) => L0 c (by simp [h]))
  have uq1 := N1
  have Hlq1 := Lib.hid (fun c (h : c ∈ fq1) => L0 c (by simp [h]))
  have Haq0_q1 := Lib.hid (fun c (h1 : c ∈ fq0) (h2 : c ∈ fq1) => R0 c h1 (by simp [h2]))
  have Haq1_q0 := Lib.hid (fun c (h1 : c ∈ fq1) (h2 : c ∈ fq0) => R0 c h2 (by simp [h1]))
  have Huq0 := Lib.hid uq0
  have Huq1 := Lib.hid uq1
  have bq0 := mEntryS_mono (k) q0
  have bq1 := mInstanceS_mono ((mEntryS (k) q0).2) q1
  have Sq0 := Lib.hid hq0
  obtain ⟨aq0, cq0, rfl, -, -, -⟩ := hq0.open
  have Sq1 := Lib.hid hq1
  obtain ⟨aq1, cq1, rfl, -, -, -⟩ := hq1.open
  clear hx hlt h1 hnd L0  hq0 hq1 uq0 uq1 R0 N0
  go_enter Try.func38, Try.ntmps38
  go_wp2_with fail
  refine (markEntryS_any fq0 _ q0 (k) _ (Sq0.out.gr (by repeat (first | exact Gr.refl _ | apply Gr.ext | apply Gr.alloc | apply Gr.drew))) Huq0.out (by omega) (by show (mEntryS (k) q0).2 ≤ _; omega)).mono ?_
  rintro e y0 ⟨rfl, t0, r0⟩
  have T0 := Lib.hid t0
  have R0 := Lib.hid r0
  clear t0 r0
  have W0 := Lib.hid ((Gr.toWr (by exact (by repeat (first | exact Gr.refl _ | apply Gr.ext | apply Gr.alloc | apply Gr.drew)) : Gr w (w.alloc (.cells #[.slice aq0 q0.length cq0, .slice aq1 q1.length cq1] 58))) (fq0 ++ (fq1))).trans (R0.out.sub (fun c hc => by simp [hc])))
  have Sq1x0 := Lib.hid (SlR.wr (Sq1.out.gr (by repeat (first | exact Gr.refl _ | apply Gr.ext | apply Gr.alloc | apply Gr.drew))) R0.out Haq1_q0.out)
  have e0 := R0.out.block w.heap.size (by simp) (fun h => Nat.lt_irrefl _ (Hlq0.out _ h))
  have c0 := fun (o : Nat) => World.cell?_of_block (a := ⟨w.heap.size, o, none⟩) e0
  have z1x0 : y0.cell? ⟨w.heap.size, 1, none⟩ = some (.slice aq1 q1.length cq1) := (c0 _).trans (box_cell rfl rfl)
  have s0 := blk z1x0
  clear e0 c0
  go_wp2_with fail
  refine (markInstanceS_any fq1 _ q1 ((mEntryS (k) q0).2) _ Sq1x0.out Huq1.out (by omega) (by show (mInstanceS ((mEntryS (k) q0).2) q1).2 ≤ _; omega)).mono ?_
  rintro e y1 ⟨rfl, t1, r1⟩
  have T1 := Lib.hid t1
  have R1 := Lib.hid r1
  clear t1 r1
  have W1 := Lib.hid (W0.out.trans (R1.out.sub (fun c hc => by simp [hc])))
  have Sq0x1 := Lib.hid (SlR.wr T0.out R1.out Haq0_q1.out)
  go_wp2_with fail
  go_ret
  refine ⟨rfl, ?_, W1.out.sub (fun c hc => by simpa using hc)⟩
  have hl := rdMemo_mk ((mEntryS (k) q0).1) ((mInstanceS ((mEntryS (k) q0).2) q1).1) Sq0x1.out T1.out
  exact hl

end Go.Proofs.Ytkfaihfgjiahdaa
