/- Contracts of the functions that mark and look at marks: Entry*:m. Made by mk_mark.py. No condition. -/
import Derived.Test.YtkfaihfgjiahdaaMarkRead
import Derived.Test.YtkfaihfgjiahdaaFamEntry
namespace Go.Proofs.Ytkfaihfgjiahdaa
open Go.RowKit

/-- The marks of an element. -/
def mEntry (k : Int) : GEntry → GEntry × Int
  | ((_, _), _, _, _, _, q5, q6, q7) => (((k, mtx (k + 1)), k + 1 + 1, k + 1 + 1 + 1, k + 1 + 1 + 1 + 1, mtx (k + 1 + 1 + 1 + 1 + 1), (mIntS (k + 1 + 1 + 1 + 1 + 1 + 1) q5).1, (mIntS ((mIntS (k + 1 + 1 + 1 + 1 + 1 + 1) q5).2) q6).1, (mReadingS ((mIntS ((mIntS (k + 1 + 1 + 1 + 1 + 1 + 1) q5).2) q6).2) q7).1), (mReadingS ((mIntS ((mIntS (k + 1 + 1 + 1 + 1 + 1 + 1) q5).2) q6).2) q7).2)
theorem mEntry_bd (k : Int) (x : GEntry) : k ≤ (mEntry k x).2 ∧ (mEntry k x).2 ≤ k + 16 * (1 + wtEntry x) := by
  obtain ⟨⟨q00, q01⟩, q1, q2, q3, q4, q5, q6, q7⟩ := x
  have bq5 := mIntS_bd (k + 1 + 1 + 1 + 1 + 1 + 1) q5
  have bq6 := mIntS_bd ((mIntS (k + 1 + 1 + 1 + 1 + 1 + 1) q5).2) q6
  have bq7 := mReadingS_bd ((mIntS ((mIntS (k + 1 + 1 + 1 + 1 + 1 + 1) q5).2) q6).2) q7
  have hw : wtEntry ((q00, q01), q1, q2, q3, q4, q5, q6, q7) = (wtInstance (q00, q01)) + (q4.size) + (q5.length) + (q6.length) + (wtReadingS q7) := rfl
  simp only [mEntry] at *
  omega
theorem mEntry_mono (k : Int) (x : GEntry) : k ≤ (mEntry k x).2 := (mEntry_bd k x).1
def mEntryS (k : Int) (x : List GEntry) : List GEntry × Int := markL mEntry k x
theorem mEntryS_len (k : Int) (x : List GEntry) : (mEntryS k x).1.length = x.length := markL_len _ _ _
theorem mEntryS_bd (k : Int) (x : List GEntry) : k ≤ (mEntryS k x).2 ∧ (mEntryS k x).2 ≤ k + 16 * wtEntryS x := by
  have := markL_bd mEntry wtEntry mEntry_bd x k
  unfold mEntryS wtEntryS
  exact this
theorem mEntryS_mono (k : Int) (x : List GEntry) : k ≤ (mEntryS k x).2 := (mEntryS_bd k x).1

set_option maxHeartbeats 4000000 in
theorem markEntryS_any (fp : List Nat) (u : Value) (xs : List GEntry) (k : Int) (w : World) (hu : SlR fp w u xs) (hnd : fp.Nodup) (h0 : 0 < k) (h1 : (mEntryS k xs).2 ≤ 4398046511104) :
    Calls Try.prog 79 #[u, .int .i64 k] w fun e w' => e = .returned (.int .i64 (mEntryS k xs).2) ∧ SlR fp w' u (mEntryS k xs).1 ∧ Wr fp w w' := by
  obtain ⟨a, ca, rfl, g1, g2, g3⟩ := hu.open
  have H1 := Lib.hid h1
  clear h1
  go_enter Try.func79, Try.ntmps79
  go_wp2
  go_loopw [5, 1] (fun s5 s1 wr => ∃ (i : Nat) (m : Int), i ≤ xs.length ∧ Hid (m = (markL mEntry k (xs.take i)).2) ∧ SlR fp wr (.slice a xs.length ca) (markT mEntry k xs i) ∧ Wr fp w wr ∧ s5 = .int .i64 i ∧ s1 = .int .i64 m) (fun s5 _ _ => xs.length - (intOf s5).toNat)
  case atStart => exact ⟨0, k, by omega, Lib.hid (by simp [markL]), by rw [markT_zero]; exact hu, Wr.refl _ _, rfl, rfl⟩
  case round =>
    obtain ⟨i, m, hi, hm, hs, hW, rfl, rfl⟩ := hrel
    have HS := Lib.hid hs
    have HW := Lib.hid hW
    clear hs hW
    by_cases hlt : i < xs.length
    · obtain ⟨b, off, rfl, hb⟩ := g3 i hlt
      have hlt' : i < (markT mEntry k xs i).length := by rw [markT_len]; exact hlt
      obtain ⟨cs, fq, hc, hr, hsub, hbm, hbn, hnq, hz, hput⟩ := HS.out.focus hnd hlt'
      have HP := Lib.hid hput
      rw [markT_at mEntry k xs hlt] at hr
      obtain ⟨y, hy⟩ : ∃ y, y = xs[i] := ⟨_, rfl⟩
      rw [← hy] at hr
      have HY := Lib.hid hy
      have bd := markL_take mEntry mEntry_mono k xs (i + 1)
      have bd2 := markL_take mEntry mEntry_mono k xs i
      rw [markK_succ mEntry k xs hlt, ← hm.out, ← hy] at bd
      rw [← hm.out] at bd2
      obtain ⟨⟨q00, q01⟩, q1, q2, q3, q4, q5, q6, q7⟩ := y
      obtain ⟨vq5, fq5, vq6, fq6, vq7, fq7, hcs, hfq, hq00, hq01, hq1, hq2, hq3, hq4, hq5, hq6, hq7⟩ := rdEntry_inv (cs := cs.toArray) q00 q01 q1 q2 q3 q4 q5 q6 q7 (by simpa using hr)
      obtain rfl : cs = [.int .i64 q00, .string q01, .int .i64 q1, .int .i64 q2, .int .i64 q3, .string q4, vq5, vq6, vq7] := by have := congrArg Array.toList hcs; simpa using this
      obtain rfl : fq = (([] ++ []) ++ ([] ++ ([] ++ ([] ++ ([] ++ (fq5 ++ (fq6 ++ fq7))))))) := hfq
      have z0 : wr.cell? ⟨b, off + i * 9, none⟩ = some (.int .i64 q00) := by simpa [Rd.n] using hc 0 _ rfl
      have z1 : wr.cell? ⟨b, off + i * 9 + 1, none⟩ = some (.string q01) := hc 1 _ rfl
      have z2 : wr.cell? ⟨b, off + i * 9 + 2, none⟩ = some (.int .i64 q1) := hc 2 _ rfl
      have z3 : wr.cell? ⟨b, off + i * 9 + 3, none⟩ = some (.int .i64 q2) := hc 3 _ rfl
      have z4 : wr.cell? ⟨b, off + i * 9 + 4, none⟩ = some (.int .i64 q3) := hc 4 _ rfl
      have z5 : wr.cell? ⟨b, off + i * 9 + 5, none⟩ = some (.string q4) := hc 5 _ rfl
      have z6 : wr.cell? ⟨b, off + i * 9 + 6, none⟩ = some (vq5) := hc 6 _ rfl
      have z7 : wr.cell? ⟨b, off + i * 9 + 7, none⟩ = some (vq6) := hc 7 _ rfl
      have z8 : wr.cell? ⟨b, off + i * 9 + 8, none⟩ = some (vq7) := hc 8 _ rfl
      have f0 : wr.frozen? ⟨b, off + i * 9, none⟩ = false := by simpa [Rd.n] using hz 0 (by decide)
      have f1 : wr.frozen? ⟨b, off + i * 9 + 1, none⟩ = false := hz 1 (by decide)
      have f2 : wr.frozen? ⟨b, off + i * 9 + 2, none⟩ = false := hz 2 (by decide)
      have f3 : wr.frozen? ⟨b, off + i * 9 + 3, none⟩ = false := hz 3 (by decide)
      have f4 : wr.frozen? ⟨b, off + i * 9 + 4, none⟩ = false := hz 4 (by decide)
      have f5 : wr.frozen? ⟨b, off + i * 9 + 5, none⟩ = false := hz 5 (by decide)
      have bl := blk z0
      have m0 : 0 < m := by omega
      have em : (mEntry m ((q00, q01), q1, q2, q3, q4, q5, q6, q7)).2 = (mReadingS ((mIntS ((mIntS (m + 1 + 1 + 1 + 1 + 1 + 1) q5).2) q6).2) q7).2 := rfl
      rw [em] at bd
      have bq5 := mIntS_mono (m + 1 + 1 + 1 + 1 + 1 + 1) q5
      have bq6 := mIntS_mono ((mIntS (m + 1 + 1 + 1 + 1 + 1 + 1) q5).2) q6
      have bq7 := mReadingS_mono ((mIntS ((mIntS (m + 1 + 1 + 1 + 1 + 1 + 1) q5).2) q6).2) q7
      have m1 : (mReadingS ((mIntS ((mIntS (m + 1 + 1 + 1 + 1 + 1 + 1) q5).2) q6).2) q7).2 ≤ 4398046511104 := by have h := H1.out; have e : (mEntryS k xs).2 = (markL mEntry k xs).2 := rfl; omega
      have n0_1 := fun (W : World) (v : Value) => cell_setCell_ne (w := W) (b := b) (o := off + i * 9) (o' := off + i * 9 + 1) (v := v) (by omega)
      have n0_2 := fun (W : World) (v : Value) => cell_setCell_ne (w := W) (b := b) (o := off + i * 9) (o' := off + i * 9 + 2) (v := v) (by omega)
      have n0_3 := fun (W : World) (v : Value) => cell_setCell_ne (w := W) (b := b) (o := off + i * 9) (o' := off + i * 9 + 3) (v := v) (by omega)
      have n0_4 := fun (W : World) (v : Value) => cell_setCell_ne (w := W) (b := b) (o := off + i * 9) (o' := off + i * 9 + 4) (v := v) (by omega)
      have n0_5 := fun (W : World) (v : Value) => cell_setCell_ne (w := W) (b := b) (o := off + i * 9) (o' := off + i * 9 + 5) (v := v) (by omega)
      have n0_6 := fun (W : World) (v : Value) => cell_setCell_ne (w := W) (b := b) (o := off + i * 9) (o' := off + i * 9 + 6) (v := v) (by omega)
      have n0_7 := fun (W : World) (v : Value) => cell_setCell_ne (w := W) (b := b) (o := off + i * 9) (o' := off + i * 9 + 7) (v := v) (by omega)
      have n0_8 := fun (W : World) (v : Value) => cell_setCell_ne (w := W) (b := b) (o := off + i * 9) (o' := off + i * 9 + 8) (v := v) (by omega)
      have n1_0 := fun (W : World) (v : Value) => cell_setCell_ne (w := W) (b := b) (o := off + i * 9 + 1) (o' := off + i * 9) (v := v) (by omega)
      have n1_2 := fun (W : World) (v : Value) => cell_setCell_ne (w := W) (b := b) (o := off + i * 9 + 1) (o' := off + i * 9 + 2) (v := v) (by omega)
      have n1_3 := fun (W : World) (v : Value) => cell_setCell_ne (w := W) (b := b) (o := off + i * 9 + 1) (o' := off + i * 9 + 3) (v := v) (by omega)
      have n1_4 := fun (W : World) (v : Value) => cell_setCell_ne (w := W) (b := b) (o := off + i * 9 + 1) (o' := off + i * 9 + 4) (v := v) (by omega)
      have n1_5 := fun (W : World) (v : Value) => cell_setCell_ne (w := W) (b := b) (o := off + i * 9 + 1) (o' := off + i * 9 + 5) (v := v) (by omega)
      have n1_6 := fun (W : World) (v : Value) => cell_setCell_ne (w := W) (b := b) (o := off + i * 9 + 1) (o' := off + i * 9 + 6) (v := v) (by omega)
      have n1_7 := fun (W : World) (v : Value) => cell_setCell_ne (w := W) (b := b) (o := off + i * 9 + 1) (o' := off + i * 9 + 7) (v := v) (by omega)
      have n1_8 := fun (W : World) (v : Value) => cell_setCell_ne (w := W) (b := b) (o := off + i * 9 + 1) (o' := off + i * 9 + 8) (v := v) (by omega)
      have n2_0 := fun (W : World) (v : Value) => cell_setCell_ne (w := W) (b := b) (o := off + i * 9 + 2) (o' := off + i * 9) (v := v) (by omega)
      have n2_1 := fun (W : World) (v : Value) => cell_setCell_ne (w := W) (b := b) (o := off + i * 9 + 2) (o' := off + i * 9 + 1) (v := v) (by omega)
      have n2_3 := fun (W : World) (v : Value) => cell_setCell_ne (w := W) (b := b) (o := off + i * 9 + 2) (o' := off + i * 9 + 3) (v := v) (by omega)
      have n2_4 := fun (W : World) (v : Value) => cell_setCell_ne (w := W) (b := b) (o := off + i * 9 + 2) (o' := off + i * 9 + 4) (v := v) (by omega)
      have n2_5 := fun (W : World) (v : Value) => cell_setCell_ne (w := W) (b := b) (o := off + i * 9 + 2) (o' := off + i * 9 + 5) (v := v) (by omega)
      have n2_6 := fun (W : World) (v : Value) => cell_setCell_ne (w := W) (b := b) (o := off + i * 9 + 2) (o' := off + i * 9 + 6) (v := v) (by omega)
      have n2_7 := fun (W : World) (v : Value) => cell_setCell_ne (w := W) (b := b) (o := off + i * 9 + 2) (o' := off + i * 9 + 7) (v := v) (by omega)
      have n2_8 := fun (W : World) (v : Value) => cell_setCell_ne (w := W) (b := b) (o := off + i * 9 + 2) (o' := off + i * 9 + 8) (v := v) (by omega)
      have n3_0 := fun (W : World) (v : Value) => cell_setCell_ne (w := W) (b := b) (o := off + i * 9 + 3) (o' := off + i * 9) (v := v) (by omega)
      have n3_1 := fun (W : World) (v : Value) => cell_setCell_ne (w := W) (b := b) (o := off + i * 9 + 3) (o' := off + i * 9 + 1) (v := v) (by omega)
      have n3_2 := fun (W : World) (v : Value) => cell_setCell_ne (w := W) (b := b) (o := off + i * 9 + 3) (o' := off + i * 9 + 2) (v := v) (by omega)
      have n3_4 := fun (W : World) (v : Value) => cell_setCell_ne (w := W) (b := b) (o := off + i * 9 + 3) (o' := off + i * 9 + 4) (v := v) (by omega)
      have n3_5 := fun (W : World) (v : Value) => cell_setCell_ne (w := W) (b := b) (o := off + i * 9 + 3) (o' := off + i * 9 + 5) (v := v) (by omega)
      have n3_6 := fun (W : World) (v : Value) => cell_setCell_ne (w := W) (b := b) (o := off + i * 9 + 3) (o' := off + i * 9 + 6) (v := v) (by omega)
      have n3_7 := fun (W : World) (v : Value) => cell_setCell_ne (w := W) (b := b) (o := off + i * 9 + 3) (o' := off + i * 9 + 7) (v := v) (by omega)
      have n3_8 := fun (W : World) (v : Value) => cell_setCell_ne (w := W) (b := b) (o := off + i * 9 + 3) (o' := off + i * 9 + 8) (v := v) (by omega)
      have n4_0 := fun (W : World) (v : Value) => cell_setCell_ne (w := W) (b := b) (o := off + i * 9 + 4) (o' := off + i * 9) (v := v) (by omega)
      have n4_1 := fun (W : World) (v : Value) => cell_setCell_ne (w := W) (b := b) (o := off + i * 9 + 4) (o' := off + i * 9 + 1) (v := v) (by omega)
      have n4_2 := fun (W : World) (v : Value) => cell_setCell_ne (w := W) (b := b) (o := off + i * 9 + 4) (o' := off + i * 9 + 2) (v := v) (by omega)
      have n4_3 := fun (W : World) (v : Value) => cell_setCell_ne (w := W) (b := b) (o := off + i * 9 + 4) (o' := off + i * 9 + 3) (v := v) (by omega)
      have n4_5 := fun (W : World) (v : Value) => cell_setCell_ne (w := W) (b := b) (o := off + i * 9 + 4) (o' := off + i * 9 + 5) (v := v) (by omega)
      have n4_6 := fun (W : World) (v : Value) => cell_setCell_ne (w := W) (b := b) (o := off + i * 9 + 4) (o' := off + i * 9 + 6) (v := v) (by omega)
      have n4_7 := fun (W : World) (v : Value) => cell_setCell_ne (w := W) (b := b) (o := off + i * 9 + 4) (o' := off + i * 9 + 7) (v := v) (by omega)
      have n4_8 := fun (W : World) (v : Value) => cell_setCell_ne (w := W) (b := b) (o := off + i * 9 + 4) (o' := off + i * 9 + 8) (v := v) (by omega)
      have n5_0 := fun (W : World) (v : Value) => cell_setCell_ne (w := W) (b := b) (o := off + i * 9 + 5) (o' := off + i * 9) (v := v) (by omega)
      have n5_1 := fun (W : World) (v : Value) => cell_setCell_ne (w := W) (b := b) (o := off + i * 9 + 5) (o' := off + i * 9 + 1) (v := v) (by omega)
      have n5_2 := fun (W : World) (v : Value) => cell_setCell_ne (w := W) (b := b) (o := off + i * 9 + 5) (o' := off + i * 9 + 2) (v := v) (by omega)
      have n5_3 := fun (W : World) (v : Value) => cell_setCell_ne (w := W) (b := b) (o := off + i * 9 + 5) (o' := off + i * 9 + 3) (v := v) (by omega)
      have n5_4 := fun (W : World) (v : Value) => cell_setCell_ne (w := W) (b := b) (o := off + i * 9 + 5) (o' := off + i * 9 + 4) (v := v) (by omega)
      have n5_6 := fun (W : World) (v : Value) => cell_setCell_ne (w := W) (b := b) (o := off + i * 9 + 5) (o' := off + i * 9 + 6) (v := v) (by omega)
      have n5_7 := fun (W : World) (v : Value) => cell_setCell_ne (w := W) (b := b) (o := off + i * 9 + 5) (o' := off + i * 9 + 7) (v := v) (by omega)
      have n5_8 := fun (W : World) (v : Value) => cell_setCell_ne (w := W) (b := b) (o := off + i * 9 + 5) (o' := off + i * 9 + 8) (v := v) (by omega)
      have fz := fun (W : World) (o o' : Nat) (v : Value) => (frozen_setCell' : (W.setCell ⟨b, o, none⟩ v).frozen? ⟨b, o', none⟩ = W.frozen? ⟨b, o', none⟩)
      have Hq00 := Lib.hid (wf_mark (y := m) (by omega) (by omega))
      have Hq01 := Lib.hid (mtx_size (m + 1) (by omega))
      have Hq1 := Lib.hid (wf_mark (y := m + 1 + 1) (by omega) (by omega))
      have Hq2 := Lib.hid (wf_mark (y := m + 1 + 1 + 1) (by omega) (by omega))
      have Hq3 := Lib.hid (wf_mark (y := m + 1 + 1 + 1 + 1) (by omega) (by omega))
      have Hq4 := Lib.hid (mtx_size (m + 1 + 1 + 1 + 1 + 1) (by omega))
      have N0 : (fq5 ++ (fq6 ++ (fq7))).Nodup := by simpa only [List.nil_append, List.append_nil] using hnq
      have M0 : b ∉ fq5 ++ (fq6 ++ (fq7)) := by simpa only [List.nil_append, List.append_nil] using hbn
      obtain ⟨uq0, N1, R0⟩ := nodup_app N0
      obtain ⟨uq1, N2, R1⟩ := nodup_app N1
      have uq5 := uq0
      have dq5 : b ∉ fq5 := fun h => M0 (by simp [h])
      have uq6 := uq1
      have dq6 : b ∉ fq6 := fun h => M0 (by simp [h])
      have uq7 := N2
      have dq7 : b ∉ fq7 := fun h => M0 (by simp [h])
      have aq5_q6 : ∀ c ∈ fq5, c ∉ fq6 := fun c h1 h2 => R0 c h1 (by simp [h2])
      have aq6_q5 : ∀ c ∈ fq6, c ∉ fq5 := fun c h1 h2 => R0 c h2 (by simp [h1])
      have aq5_q7 : ∀ c ∈ fq5, c ∉ fq7 := fun c h1 h2 => R0 c h1 (by simp [h2])
      have aq7_q5 : ∀ c ∈ fq7, c ∉ fq5 := fun c h1 h2 => R0 c h2 (by simp [h1])
      have aq6_q7 : ∀ c ∈ fq6, c ∉ fq7 := fun c h1 h2 => R1 c h1 (by simp [h2])
      have aq7_q6 : ∀ c ∈ fq7, c ∉ fq6 := fun c h1 h2 => R1 c h2 (by simp [h1])
      have Sq5 := Lib.hid hq5
      obtain ⟨aaq5, ccq5, rfl, -, -, -⟩ := hq5.open
      have Sq6 := Lib.hid hq6
      obtain ⟨aaq6, ccq6, rfl, -, -, -⟩ := hq6.open
      have Sq7 := Lib.hid hq7
      obtain ⟨aaq7, ccq7, rfl, -, -, -⟩ := hq7.open
      have Haq5_q6 := Lib.hid aq5_q6
      have Haq5_q7 := Lib.hid aq5_q7
      have Haq6_q5 := Lib.hid aq6_q5
      have Haq6_q7 := Lib.hid aq6_q7
      have Haq7_q5 := Lib.hid aq7_q5
      have Haq7_q6 := Lib.hid aq7_q6
      have Hdq5 := Lib.hid dq5
      have Hdq6 := Lib.hid dq6
      have Hdq7 := Lib.hid dq7
      have Huq5 := Lib.hid uq5
      have Huq6 := Lib.hid uq6
      have Huq7 := Lib.hid uq7
      clear aq5_q6 aq5_q7 aq6_q5 aq6_q7 aq7_q5 aq7_q6 dq5 dq6 dq7 uq5 uq6 uq7 M0 N0 N1 N2 uq0 R0 uq1 R1 hq5 hq6 hq7
      clear hc hz hput bd2 g3 em hy hr hcs hq00 hq01 hq1 hq2 hq3 hq4
      have Hbn := Lib.hid hbn
      have Hnq := Lib.hid hnq
      have Hsub := Lib.hid hsub
      clear hbn hnq hsub
      go_wp2_with fail
      refine (markText_any (m + 1) _ (by omega) (by omega)).mono ?_
      rintro e w1 ⟨rfl, x1, rfl⟩
      go_wp2_with fail
      refine (markText_any (m + 1 + 1 + 1 + 1 + 1) _ (by omega) (by omega)).mono ?_
      rintro e w5 ⟨rfl, x5, rfl⟩
      go_wp2_with fail
      refine (markIntS_any fq5 _ q5 (m + 1 + 1 + 1 + 1 + 1 + 1) _ ((SlR.wr Sq5.out (fp := [b]) (by repeat (first | with_reducible refine Wr.setCell ?_ (by simp) _ | with_reducible refine Wr.gr ?_ (Gr.ext (Gr.refl _) _) | exact Wr.refl _ _)) (by have := Hdq5.out; intro c hc hcb; simp at hcb; subst hcb; exact this hc))) Huq5.out (by omega) (by show (mIntS (m + 1 + 1 + 1 + 1 + 1 + 1) q5).2 ≤ _; omega)).mono ?_
      rintro e y6 ⟨rfl, t6, r6⟩
      have T6 := Lib.hid t6
      have R6 := Lib.hid r6
      clear t6 r6
      have F6 := Lib.hid (Foc.inner (b := b) (lo := off + i * Rd.n GEntry) (n := Rd.n GEntry) (fq := (([] ++ []) ++ ([] ++ ([] ++ ([] ++ ([] ++ (fq5 ++ (fq6 ++ fq7)))))))) (w := wr) (by repeat (first | with_reducible refine Foc.set ?_ (by simp [Rd.n] <;> omega) (by simp [Rd.n] <;> omega) _ | with_reducible refine Foc.gr ?_ bl (Gr.ext (Gr.refl _) _) | exact Foc.refl _ _ _ _ _)) bl R6.out (by intro c hc; simp [hc]) Hdq5.out)
      have Sq5x6 := T6
      have Sq6x6 := Lib.hid (SlR.wr (SlR.wr Sq6.out (fp := [b]) (by repeat (first | with_reducible refine Wr.setCell ?_ (by simp) _ | with_reducible refine Wr.gr ?_ (Gr.ext (Gr.refl _) _) | exact Wr.refl _ _)) (by have := Hdq6.out; intro c hc hcb; simp at hcb; subst hcb; exact this hc)) R6.out Haq6_q5.out)
      have Sq7x6 := Lib.hid (SlR.wr (SlR.wr Sq7.out (fp := [b]) (by repeat (first | with_reducible refine Wr.setCell ?_ (by simp) _ | with_reducible refine Wr.gr ?_ (Gr.ext (Gr.refl _) _) | exact Wr.refl _ _)) (by have := Hdq7.out; intro c hc hcb; simp at hcb; subst hcb; exact this hc)) R6.out Haq7_q5.out)
      have e6 := R6.out.block b (Nat.lt_of_lt_of_le bl (Foc.wr (b := b) (lo := off + i * Rd.n GEntry) (n := Rd.n GEntry) (fq := (([] ++ []) ++ ([] ++ ([] ++ ([] ++ ([] ++ (fq5 ++ (fq6 ++ fq7)))))))) (w := wr) (by repeat (first | with_reducible refine Foc.set ?_ (by simp [Rd.n] <;> omega) (by simp [Rd.n] <;> omega) _ | with_reducible refine Foc.gr ?_ bl (Gr.ext (Gr.refl _) _) | exact Foc.refl _ _ _ _ _))).size) Hdq5.out
      have c6 := fun (o : Nat) => World.cell?_of_block (a := ⟨b, o, none⟩) e6
      have z0x6 : y6.cell? ⟨b, off + i * 9, none⟩ = some (.int .i64 (m)) := (c6 _).trans (by go_simp)
      have z1x6 : y6.cell? ⟨b, off + i * 9 + 1, none⟩ = some (.string (mtx (m + 1))) := (c6 _).trans (by go_simp)
      have z2x6 : y6.cell? ⟨b, off + i * 9 + 2, none⟩ = some (.int .i64 (m + 1 + 1)) := (c6 _).trans (by go_simp)
      have z3x6 : y6.cell? ⟨b, off + i * 9 + 3, none⟩ = some (.int .i64 (m + 1 + 1 + 1)) := (c6 _).trans (by go_simp)
      have z4x6 : y6.cell? ⟨b, off + i * 9 + 4, none⟩ = some (.int .i64 (m + 1 + 1 + 1 + 1)) := (c6 _).trans (by go_simp)
      have z5x6 : y6.cell? ⟨b, off + i * 9 + 5, none⟩ = some (.string (mtx (m + 1 + 1 + 1 + 1 + 1))) := (c6 _).trans (by go_simp)
      have z6x6 : y6.cell? ⟨b, off + i * 9 + 6, none⟩ = some (.slice aaq5 q5.length ccq5) := (c6 _).trans (by go_simp)
      have z7x6 : y6.cell? ⟨b, off + i * 9 + 7, none⟩ = some (.slice aaq6 q6.length ccq6) := (c6 _).trans (by go_simp)
      have z8x6 : y6.cell? ⟨b, off + i * 9 + 8, none⟩ = some (.slice aaq7 q7.length ccq7) := (c6 _).trans (by go_simp)
      have s6 := R6.out.size
      clear e6 c6 z0 z1 z2 z3 z4 z5 z6 z7 z8
      clear fz n0_1 n0_2 n0_3 n0_4 n0_5 n0_6 n0_7 n0_8 n1_0 n1_2 n1_3 n1_4 n1_5 n1_6 n1_7 n1_8 n2_0 n2_1 n2_3 n2_4 n2_5 n2_6 n2_7 n2_8 n3_0 n3_1 n3_2 n3_4 n3_5 n3_6 n3_7 n3_8 n4_0 n4_1 n4_2 n4_3 n4_5 n4_6 n4_7 n4_8 n5_0 n5_1 n5_2 n5_3 n5_4 n5_6 n5_7 n5_8 f0 f1 f2 f3 f4 f5
      go_wp2_with fail
      refine (markIntS_any fq6 _ q6 ((mIntS (m + 1 + 1 + 1 + 1 + 1 + 1) q5).2) _ ((SlR.wr Sq6x6.out (fp := [b]) (by repeat (first | with_reducible refine Wr.setCell ?_ (by simp) _ | with_reducible refine Wr.gr ?_ (Gr.ext (Gr.refl _) _) | exact Wr.refl _ _)) (by have := Hdq6.out; intro c hc hcb; simp at hcb; subst hcb; exact this hc))) Huq6.out (by omega) (by show (mIntS ((mIntS (m + 1 + 1 + 1 + 1 + 1 + 1) q5).2) q6).2 ≤ _; omega)).mono ?_
      rintro e y7 ⟨rfl, t7, r7⟩
      have T7 := Lib.hid t7
      have R7 := Lib.hid r7
      clear t7 r7
      have F7 := Lib.hid (Foc.inner (b := b) (lo := off + i * Rd.n GEntry) (n := Rd.n GEntry) (fq := (([] ++ []) ++ ([] ++ ([] ++ ([] ++ ([] ++ (fq5 ++ (fq6 ++ fq7)))))))) (w := wr) (by repeat (first | with_reducible refine Foc.set ?_ (by simp [Rd.n] <;> omega) (by simp [Rd.n] <;> omega) _ | with_reducible refine Foc.gr ?_ bl (Gr.ext (Gr.refl _) _) | exact F6.out)) bl R7.out (by intro c hc; simp [hc]) Hdq6.out)
      have Sq5x7 := Lib.hid (SlR.wr (SlR.wr Sq5x6.out (fp := [b]) (by repeat (first | with_reducible refine Wr.setCell ?_ (by simp) _ | with_reducible refine Wr.gr ?_ (Gr.ext (Gr.refl _) _) | exact Wr.refl _ _)) (by have := Hdq5.out; intro c hc hcb; simp at hcb; subst hcb; exact this hc)) R7.out Haq5_q6.out)
      have Sq6x7 := T7
      have Sq7x7 := Lib.hid (SlR.wr (SlR.wr Sq7x6.out (fp := [b]) (by repeat (first | with_reducible refine Wr.setCell ?_ (by simp) _ | with_reducible refine Wr.gr ?_ (Gr.ext (Gr.refl _) _) | exact Wr.refl _ _)) (by have := Hdq7.out; intro c hc hcb; simp at hcb; subst hcb; exact this hc)) R7.out Haq7_q6.out)
      have e7 := R7.out.block b (Nat.lt_of_lt_of_le bl (Foc.wr (b := b) (lo := off + i * Rd.n GEntry) (n := Rd.n GEntry) (fq := (([] ++ []) ++ ([] ++ ([] ++ ([] ++ ([] ++ (fq5 ++ (fq6 ++ fq7)))))))) (w := wr) (by repeat (first | with_reducible refine Foc.set ?_ (by simp [Rd.n] <;> omega) (by simp [Rd.n] <;> omega) _ | with_reducible refine Foc.gr ?_ bl (Gr.ext (Gr.refl _) _) | exact F6.out))).size) Hdq6.out
      have c7 := fun (o : Nat) => World.cell?_of_block (a := ⟨b, o, none⟩) e7
      have z0x7 : y7.cell? ⟨b, off + i * 9, none⟩ = some (.int .i64 (m)) := (c7 _).trans z0x6
      have z1x7 : y7.cell? ⟨b, off + i * 9 + 1, none⟩ = some (.string (mtx (m + 1))) := (c7 _).trans z1x6
      have z2x7 : y7.cell? ⟨b, off + i * 9 + 2, none⟩ = some (.int .i64 (m + 1 + 1)) := (c7 _).trans z2x6
      have z3x7 : y7.cell? ⟨b, off + i * 9 + 3, none⟩ = some (.int .i64 (m + 1 + 1 + 1)) := (c7 _).trans z3x6
      have z4x7 : y7.cell? ⟨b, off + i * 9 + 4, none⟩ = some (.int .i64 (m + 1 + 1 + 1 + 1)) := (c7 _).trans z4x6
      have z5x7 : y7.cell? ⟨b, off + i * 9 + 5, none⟩ = some (.string (mtx (m + 1 + 1 + 1 + 1 + 1))) := (c7 _).trans z5x6
      have z6x7 : y7.cell? ⟨b, off + i * 9 + 6, none⟩ = some (.slice aaq5 q5.length ccq5) := (c7 _).trans z6x6
      have z7x7 : y7.cell? ⟨b, off + i * 9 + 7, none⟩ = some (.slice aaq6 q6.length ccq6) := (c7 _).trans z7x6
      have z8x7 : y7.cell? ⟨b, off + i * 9 + 8, none⟩ = some (.slice aaq7 q7.length ccq7) := (c7 _).trans z8x6
      have s7 := R7.out.size
      clear e7 c7 z0x6 z1x6 z2x6 z3x6 z4x6 z5x6 z6x6 z7x6 z8x6
      go_wp2_with fail
      refine (markReadingS_any fq7 _ q7 ((mIntS ((mIntS (m + 1 + 1 + 1 + 1 + 1 + 1) q5).2) q6).2) _ ((SlR.wr Sq7x7.out (fp := [b]) (by repeat (first | with_reducible refine Wr.setCell ?_ (by simp) _ | with_reducible refine Wr.gr ?_ (Gr.ext (Gr.refl _) _) | exact Wr.refl _ _)) (by have := Hdq7.out; intro c hc hcb; simp at hcb; subst hcb; exact this hc))) Huq7.out (by omega) (by show (mReadingS ((mIntS ((mIntS (m + 1 + 1 + 1 + 1 + 1 + 1) q5).2) q6).2) q7).2 ≤ _; omega)).mono ?_
      rintro e y8 ⟨rfl, t8, r8⟩
      have T8 := Lib.hid t8
      have R8 := Lib.hid r8
      clear t8 r8
      have F8 := Lib.hid (Foc.inner (b := b) (lo := off + i * Rd.n GEntry) (n := Rd.n GEntry) (fq := (([] ++ []) ++ ([] ++ ([] ++ ([] ++ ([] ++ (fq5 ++ (fq6 ++ fq7)))))))) (w := wr) (by repeat (first | with_reducible refine Foc.set ?_ (by simp [Rd.n] <;> omega) (by simp [Rd.n] <;> omega) _ | with_reducible refine Foc.gr ?_ bl (Gr.ext (Gr.refl _) _) | exact F7.out)) bl R8.out (by intro c hc; simp [hc]) Hdq7.out)
      have Sq5x8 := Lib.hid (SlR.wr (SlR.wr Sq5x7.out (fp := [b]) (by repeat (first | with_reducible refine Wr.setCell ?_ (by simp) _ | with_reducible refine Wr.gr ?_ (Gr.ext (Gr.refl _) _) | exact Wr.refl _ _)) (by have := Hdq5.out; intro c hc hcb; simp at hcb; subst hcb; exact this hc)) R8.out Haq5_q7.out)
      have Sq6x8 := Lib.hid (SlR.wr (SlR.wr Sq6x7.out (fp := [b]) (by repeat (first | with_reducible refine Wr.setCell ?_ (by simp) _ | with_reducible refine Wr.gr ?_ (Gr.ext (Gr.refl _) _) | exact Wr.refl _ _)) (by have := Hdq6.out; intro c hc hcb; simp at hcb; subst hcb; exact this hc)) R8.out Haq6_q7.out)
      have Sq7x8 := T8
      have e8 := R8.out.block b (Nat.lt_of_lt_of_le bl (Foc.wr (b := b) (lo := off + i * Rd.n GEntry) (n := Rd.n GEntry) (fq := (([] ++ []) ++ ([] ++ ([] ++ ([] ++ ([] ++ (fq5 ++ (fq6 ++ fq7)))))))) (w := wr) (by repeat (first | with_reducible refine Foc.set ?_ (by simp [Rd.n] <;> omega) (by simp [Rd.n] <;> omega) _ | with_reducible refine Foc.gr ?_ bl (Gr.ext (Gr.refl _) _) | exact F7.out))).size) Hdq7.out
      have c8 := fun (o : Nat) => World.cell?_of_block (a := ⟨b, o, none⟩) e8
      have z0x8 : y8.cell? ⟨b, off + i * 9, none⟩ = some (.int .i64 (m)) := (c8 _).trans z0x7
      have z1x8 : y8.cell? ⟨b, off + i * 9 + 1, none⟩ = some (.string (mtx (m + 1))) := (c8 _).trans z1x7
      have z2x8 : y8.cell? ⟨b, off + i * 9 + 2, none⟩ = some (.int .i64 (m + 1 + 1)) := (c8 _).trans z2x7
      have z3x8 : y8.cell? ⟨b, off + i * 9 + 3, none⟩ = some (.int .i64 (m + 1 + 1 + 1)) := (c8 _).trans z3x7
      have z4x8 : y8.cell? ⟨b, off + i * 9 + 4, none⟩ = some (.int .i64 (m + 1 + 1 + 1 + 1)) := (c8 _).trans z4x7
      have z5x8 : y8.cell? ⟨b, off + i * 9 + 5, none⟩ = some (.string (mtx (m + 1 + 1 + 1 + 1 + 1))) := (c8 _).trans z5x7
      have z6x8 : y8.cell? ⟨b, off + i * 9 + 6, none⟩ = some (.slice aaq5 q5.length ccq5) := (c8 _).trans z6x7
      have z7x8 : y8.cell? ⟨b, off + i * 9 + 7, none⟩ = some (.slice aaq6 q6.length ccq6) := (c8 _).trans z7x7
      have z8x8 : y8.cell? ⟨b, off + i * 9 + 8, none⟩ = some (.slice aaq7 q7.length ccq7) := (c8 _).trans z8x7
      have s8 := R8.out.size
      clear e8 c8 z0x7 z1x7 z2x7 z3x7 z4x7 z5x7 z6x7 z7x7 z8x7
      go_wp2_with fail
      refine ⟨⟨i + 1, (mReadingS ((mIntS ((mIntS (m + 1 + 1 + 1 + 1 + 1 + 1) q5).2) q6).2) q7).2, by omega, Lib.hid ?_, ?_, ?_, by go_num, rfl⟩, by simp [intOf]; omega⟩
      · rw [markK_succ mEntry k xs hlt, ← hm.out, ← HY.out]; rfl
      · rw [markT_succ mEntry k xs hlt, ← hm.out, ← HY.out]
        refine HP.out _ [.int .i64 (m), .string (mtx (m + 1)), .int .i64 (m + 1 + 1), .int .i64 (m + 1 + 1 + 1), .int .i64 (m + 1 + 1 + 1 + 1), .string (mtx (m + 1 + 1 + 1 + 1 + 1)), .slice aaq5 q5.length ccq5, .slice aaq6 q6.length ccq6, .slice aaq7 q7.length ccq7] (mEntry m ((q00, q01), q1, q2, q3, q4, q5, q6, q7)).1 (by repeat (first | with_reducible refine Foc.set ?_ (by simp [Rd.n] <;> omega) (by simp [Rd.n] <;> omega) _ | with_reducible refine Foc.gr ?_ bl (Gr.ext (Gr.refl _) _) | exact F8.out)) (fun j v hj => ?_) (rdEntry_mk (m) (mtx (m + 1)) (m + 1 + 1) (m + 1 + 1 + 1) (m + 1 + 1 + 1 + 1) (mtx (m + 1 + 1 + 1 + 1 + 1)) ((mIntS (m + 1 + 1 + 1 + 1 + 1 + 1) q5).1) ((mIntS ((mIntS (m + 1 + 1 + 1 + 1 + 1 + 1) q5).2) q6).1) ((mReadingS ((mIntS ((mIntS (m + 1 + 1 + 1 + 1 + 1 + 1) q5).2) q6).2) q7).1) Hq00.out Hq01.out Hq1.out Hq2.out Hq3.out Hq4.out (SlR.wr Sq5x8.out (fp := [b]) (by repeat (first | with_reducible refine Wr.setCell ?_ (by simp) _ | with_reducible refine Wr.gr ?_ (Gr.ext (Gr.refl _) _) | exact Wr.refl _ _)) (by have := Hdq5.out; intro c hc hcb; simp at hcb; subst hcb; exact this hc)) (SlR.wr Sq6x8.out (fp := [b]) (by repeat (first | with_reducible refine Wr.setCell ?_ (by simp) _ | with_reducible refine Wr.gr ?_ (Gr.ext (Gr.refl _) _) | exact Wr.refl _ _)) (by have := Hdq6.out; intro c hc hcb; simp at hcb; subst hcb; exact this hc)) (SlR.wr Sq7x8.out (fp := [b]) (by repeat (first | with_reducible refine Wr.setCell ?_ (by simp) _ | with_reducible refine Wr.gr ?_ (Gr.ext (Gr.refl _) _) | exact Wr.refl _ _)) (by have := Hdq7.out; intro c hc hcb; simp at hcb; subst hcb; exact this hc)))
        have en : off + i * Rd.n GEntry = off + i * 9 := rfl
        rw [en]
        match j, hj with
        | 0, hj => obtain rfl := Option.some.inj hj; exact z0x8
        | 1, hj => obtain rfl := Option.some.inj hj; exact z1x8
        | 2, hj => obtain rfl := Option.some.inj hj; exact z2x8
        | 3, hj => obtain rfl := Option.some.inj hj; exact z3x8
        | 4, hj => obtain rfl := Option.some.inj hj; exact z4x8
        | 5, hj => obtain rfl := Option.some.inj hj; exact z5x8
        | 6, hj => obtain rfl := Option.some.inj hj; exact z6x8
        | 7, hj => obtain rfl := Option.some.inj hj; exact z7x8
        | 8, hj => obtain rfl := Option.some.inj hj; exact z8x8
      · exact HW.out.trans (Wr.sub (Foc.wr (b := b) (lo := off + i * Rd.n GEntry) (n := Rd.n GEntry) (fq := (([] ++ []) ++ ([] ++ ([] ++ ([] ++ ([] ++ (fq5 ++ (fq6 ++ fq7)))))))) (by repeat (first | with_reducible refine Foc.set ?_ (by simp [Rd.n] <;> omega) (by simp [Rd.n] <;> omega) _ | with_reducible refine Foc.gr ?_ bl (Gr.ext (Gr.refl _) _) | exact F8.out))) (fun c hc => by
          rcases List.mem_cons.1 hc with rfl | hc
          · exact hbm
          · exact Hsub.out c hc))
    · have hk2 : i = xs.length := by omega
      subst hk2
      have hs2 := HS.out
      rw [markT_all] at hs2
      have hm2 := hm.out
      rw [List.take_length] at hm2
      have HS2 := Lib.hid hs2
      have HM2 := Lib.hid hm2
      clear hs2 hm2 HS hm
      go_wp2
      go_ret
      exact ⟨ret_int HM2.out, HS2.out, HW.out⟩

end Go.Proofs.Ytkfaihfgjiahdaa
