/- Contracts of the functions that mark and look at marks: Instance*:m, Reading*. Made by mk_mark.py. No condition. -/
import Derived.Test.YtkfaihfgjiahdaaMarkInts
import Derived.Test.YtkfaihfgjiahdaaFamRead
namespace Go.Proofs.Ytkfaihfgjiahdaa
open Go.RowKit

/-- The marks of an element. -/
def mInstance (k : Int) : GInstance → GInstance × Int
  | (_, _) => ((k, mtx (k + 1)), k + 1 + 1)
theorem mInstance_bd (k : Int) (x : GInstance) : k ≤ (mInstance k x).2 ∧ (mInstance k x).2 ≤ k + 16 * (1 + wtInstance x) := by
  obtain ⟨q0, q1⟩ := x
  have hw : wtInstance (q0, q1) = (q1.size) := rfl
  simp only [mInstance] at *
  omega
theorem mInstance_mono (k : Int) (x : GInstance) : k ≤ (mInstance k x).2 := (mInstance_bd k x).1
def mInstanceS (k : Int) (x : List GInstance) : List GInstance × Int := markL mInstance k x
theorem mInstanceS_len (k : Int) (x : List GInstance) : (mInstanceS k x).1.length = x.length := markL_len _ _ _
theorem mInstanceS_bd (k : Int) (x : List GInstance) : k ≤ (mInstanceS k x).2 ∧ (mInstanceS k x).2 ≤ k + 16 * wtInstanceS x := by
  have := markL_bd mInstance wtInstance mInstance_bd x k
  unfold mInstanceS wtInstanceS
  exact this
theorem mInstanceS_mono (k : Int) (x : List GInstance) : k ≤ (mInstanceS k x).2 := (mInstanceS_bd k x).1

set_option maxHeartbeats 1000000 in
theorem markInstanceS_any (fp : List Nat) (u : Value) (xs : List GInstance) (k : Int) (w : World) (hu : SlR fp w u xs) (hnd : fp.Nodup) (h0 : 0 < k) (h1 : (mInstanceS k xs).2 ≤ 4398046511104) :
    Calls Try.prog 39 #[u, .int .i64 k] w fun e w' => e = .returned (.int .i64 (mInstanceS k xs).2) ∧ SlR fp w' u (mInstanceS k xs).1 ∧ Wr fp w w' := by
  obtain ⟨a, ca, rfl, g1, g2, g3⟩ := hu.open
  have H1 := Lib.hid h1
  clear h1
  go_enter Try.func39, Try.ntmps39
  go_wp2
  go_loopw [5, 1] (fun s5 s1 wr => ∃ (i : Nat) (m : Int), i ≤ xs.length ∧ Hid (m = (markL mInstance k (xs.take i)).2) ∧ SlR fp wr (.slice a xs.length ca) (markT mInstance k xs i) ∧ Wr fp w wr ∧ s5 = .int .i64 i ∧ s1 = .int .i64 m) (fun s5 _ _ => xs.length - (intOf s5).toNat)
  case atStart => exact ⟨0, k, by omega, Lib.hid (by simp [markL]), by rw [markT_zero]; exact hu, Wr.refl _ _, rfl, rfl⟩
  case round =>
    obtain ⟨i, m, hi, hm, hs, hW, rfl, rfl⟩ := hrel
    have HS := Lib.hid hs
    have HW := Lib.hid hW
    clear hs hW
    by_cases hlt : i < xs.length
    · obtain ⟨b, off, rfl, hb⟩ := g3 i hlt
      have hlt' : i < (markT mInstance k xs i).length := by rw [markT_len]; exact hlt
      obtain ⟨cs, fq, hc, hr, hsub, hbm, hbn, hnq, hz, hput⟩ := HS.out.focus hnd hlt'
      have HP := Lib.hid hput
      rw [markT_at mInstance k xs hlt] at hr
      obtain ⟨y, hy⟩ : ∃ y, y = xs[i] := ⟨_, rfl⟩
      rw [← hy] at hr
      have HY := Lib.hid hy
      have bd := markL_take mInstance mInstance_mono k xs (i + 1)
      have bd2 := markL_take mInstance mInstance_mono k xs i
      rw [markK_succ mInstance k xs hlt, ← hm.out, ← hy] at bd
      rw [← hm.out] at bd2
      obtain ⟨q0, q1⟩ := y
      obtain ⟨hcs, hfq, hq0, hq1⟩ := rdInstance_inv (cs := cs.toArray) q0 q1 (by simpa using hr)
      obtain rfl : cs = [.int .i64 q0, .string q1] := by have := congrArg Array.toList hcs; simpa using this
      obtain rfl : fq = ([] ++ []) := hfq
      have z0 : wr.cell? ⟨b, off + i * 2, none⟩ = some (.int .i64 q0) := by simpa [Rd.n] using hc 0 _ rfl
      have z1 : wr.cell? ⟨b, off + i * 2 + 1, none⟩ = some (.string q1) := hc 1 _ rfl
      have f0 : wr.frozen? ⟨b, off + i * 2, none⟩ = false := by simpa [Rd.n] using hz 0 (by decide)
      have f1 : wr.frozen? ⟨b, off + i * 2 + 1, none⟩ = false := hz 1 (by decide)
      have bl := blk z0
      have m0 : 0 < m := by omega
      have em : (mInstance m (q0, q1)).2 = m + 1 + 1 := rfl
      rw [em] at bd
      have m1 : m + 1 + 1 ≤ 4398046511104 := by have h := H1.out; have e : (mInstanceS k xs).2 = (markL mInstance k xs).2 := rfl; omega
      have n0_1 := fun (W : World) (v : Value) => cell_setCell_ne (w := W) (b := b) (o := off + i * 2) (o' := off + i * 2 + 1) (v := v) (by omega)
      have n1_0 := fun (W : World) (v : Value) => cell_setCell_ne (w := W) (b := b) (o := off + i * 2 + 1) (o' := off + i * 2) (v := v) (by omega)
      have fz := fun (W : World) (o o' : Nat) (v : Value) => (frozen_setCell' : (W.setCell ⟨b, o, none⟩ v).frozen? ⟨b, o', none⟩ = W.frozen? ⟨b, o', none⟩)
      have Hq0 := Lib.hid (wf_mark (y := m) (by omega) (by omega))
      have Hq1 := Lib.hid (mtx_size (m + 1) (by omega))
      clear hc hz hput bd2 g3 em hy hr hcs hq0 hq1
      have Hbn := Lib.hid hbn
      have Hnq := Lib.hid hnq
      have Hsub := Lib.hid hsub
      clear hbn hnq hsub
      go_wp2_with fail
      refine (markText_any (m + 1) _ (by omega) (by omega)).mono ?_
      rintro e w1 ⟨rfl, x1, rfl⟩
      go_wp2_with fail
      refine ⟨⟨i + 1, m + 1 + 1, by omega, Lib.hid ?_, ?_, ?_, by go_num, rfl⟩, by simp [intOf]; omega⟩
      · rw [markK_succ mInstance k xs hlt, ← hm.out, ← HY.out]; rfl
      · rw [markT_succ mInstance k xs hlt, ← hm.out, ← HY.out]
        refine HP.out _ [.int .i64 (m), .string (mtx (m + 1))] (mInstance m (q0, q1)).1 (by repeat (first | with_reducible refine Foc.set ?_ (by simp [Rd.n] <;> omega) (by simp [Rd.n] <;> omega) _ | with_reducible refine Foc.gr ?_ bl (Gr.ext (Gr.refl _) _) | exact Foc.refl _ _ _ _ _)) (fun j v hj => ?_) (rdInstance_mk (m) (mtx (m + 1)) Hq0.out Hq1.out)
        have en : off + i * Rd.n GInstance = off + i * 2 := rfl
        rw [en]
        match j, hj with
        | 0, hj => obtain rfl := Option.some.inj hj; go_simp
        | 1, hj => obtain rfl := Option.some.inj hj; go_simp
      · repeat (first | with_reducible refine Wr.setCell ?_ hbm _ | with_reducible refine Wr.gr ?_ (Gr.ext (Gr.refl _) _) | exact HW.out)
    · have hk2 : i = xs.length := by omega
      subst hk2
      have hs2 := HS.out
      rw [markT_all] at hs2
      have hm2 := hm.out
      rw [List.take_length] at hm2
      have HS2 := Lib.hid hs2
      have HM2 := Lib.hid hm2
      clear hs2 hm2 HS hm
      go_wp2
      go_ret
      exact ⟨ret_int HM2.out, HS2.out, HW.out⟩

/-- The marks of an element. -/
def mReading (k : Int) : GReading → GReading × Int
  | ((_, _), _, _) => (((k, mtx (k + 1)), k + 1 + 1, mtx (k + 1 + 1 + 1)), k + 1 + 1 + 1 + 1)
theorem mReading_bd (k : Int) (x : GReading) : k ≤ (mReading k x).2 ∧ (mReading k x).2 ≤ k + 16 * (1 + wtReading x) := by
  obtain ⟨⟨q00, q01⟩, q1, q2⟩ := x
  have hw : wtReading ((q00, q01), q1, q2) = (wtInstance (q00, q01)) + (q2.size) := rfl
  simp only [mReading] at *
  omega
theorem mReading_mono (k : Int) (x : GReading) : k ≤ (mReading k x).2 := (mReading_bd k x).1
def mReadingS (k : Int) (x : List GReading) : List GReading × Int := markL mReading k x
theorem mReadingS_len (k : Int) (x : List GReading) : (mReadingS k x).1.length = x.length := markL_len _ _ _
theorem mReadingS_bd (k : Int) (x : List GReading) : k ≤ (mReadingS k x).2 ∧ (mReadingS k x).2 ≤ k + 16 * wtReadingS x := by
  have := markL_bd mReading wtReading mReading_bd x k
  unfold mReadingS wtReadingS
  exact this
theorem mReadingS_mono (k : Int) (x : List GReading) : k ≤ (mReadingS k x).2 := (mReadingS_bd k x).1

set_option maxHeartbeats 1000000 in
theorem markReadingS_any (fp : List Nat) (u : Value) (xs : List GReading) (k : Int) (w : World) (hu : SlR fp w u xs) (hnd : fp.Nodup) (h0 : 0 < k) (h1 : (mReadingS k xs).2 ≤ 4398046511104) :
    Calls Try.prog 84 #[u, .int .i64 k] w fun e w' => e = .returned (.int .i64 (mReadingS k xs).2) ∧ SlR fp w' u (mReadingS k xs).1 ∧ Wr fp w w' := by
  obtain ⟨a, ca, rfl, g1, g2, g3⟩ := hu.open
  have H1 := Lib.hid h1
  clear h1
  go_enter Try.func84, Try.ntmps84
  go_wp2
  go_loopw [5, 1] (fun s5 s1 wr => ∃ (i : Nat) (m : Int), i ≤ xs.length ∧ Hid (m = (markL mReading k (xs.take i)).2) ∧ SlR fp wr (.slice a xs.length ca) (markT mReading k xs i) ∧ Wr fp w wr ∧ s5 = .int .i64 i ∧ s1 = .int .i64 m) (fun s5 _ _ => xs.length - (intOf s5).toNat)
  case atStart => exact ⟨0, k, by omega, Lib.hid (by simp [markL]), by rw [markT_zero]; exact hu, Wr.refl _ _, rfl, rfl⟩
  case round =>
    obtain ⟨i, m, hi, hm, hs, hW, rfl, rfl⟩ := hrel
    have HS := Lib.hid hs
    have HW := Lib.hid hW
    clear hs hW
    by_cases hlt : i < xs.length
    · obtain ⟨b, off, rfl, hb⟩ := g3 i hlt
      have hlt' : i < (markT mReading k xs i).length := by rw [markT_len]; exact hlt
      obtain ⟨cs, fq, hc, hr, hsub, hbm, hbn, hnq, hz, hput⟩ := HS.out.focus hnd hlt'
      have HP := Lib.hid hput
      rw [markT_at mReading k xs hlt] at hr
      obtain ⟨y, hy⟩ : ∃ y, y = xs[i] := ⟨_, rfl⟩
      rw [← hy] at hr
      have HY := Lib.hid hy
      have bd := markL_take mReading mReading_mono k xs (i + 1)
      have bd2 := markL_take mReading mReading_mono k xs i
      rw [markK_succ mReading k xs hlt, ← hm.out, ← hy] at bd
      rw [← hm.out] at bd2
      obtain ⟨⟨q00, q01⟩, q1, q2⟩ := y
      obtain ⟨hcs, hfq, hq00, hq01, hq1, hq2⟩ := rdReading_inv (cs := cs.toArray) q00 q01 q1 q2 (by simpa using hr)
      obtain rfl : cs = [.int .i64 q00, .string q01, .int .i64 q1, .string q2] := by have := congrArg Array.toList hcs; simpa using this
      obtain rfl : fq = (([] ++ []) ++ ([] ++ [])) := hfq
      have z0 : wr.cell? ⟨b, off + i * 4, none⟩ = some (.int .i64 q00) := by simpa [Rd.n] using hc 0 _ rfl
      have z1 : wr.cell? ⟨b, off + i * 4 + 1, none⟩ = some (.string q01) := hc 1 _ rfl
      have z2 : wr.cell? ⟨b, off + i * 4 + 2, none⟩ = some (.int .i64 q1) := hc 2 _ rfl
      have z3 : wr.cell? ⟨b, off + i * 4 + 3, none⟩ = some (.string q2) := hc 3 _ rfl
      have f0 : wr.frozen? ⟨b, off + i * 4, none⟩ = false := by simpa [Rd.n] using hz 0 (by decide)
      have f1 : wr.frozen? ⟨b, off + i * 4 + 1, none⟩ = false := hz 1 (by decide)
      have f2 : wr.frozen? ⟨b, off + i * 4 + 2, none⟩ = false := hz 2 (by decide)
      have f3 : wr.frozen? ⟨b, off + i * 4 + 3, none⟩ = false := hz 3 (by decide)
      have bl := blk z0
      have m0 : 0 < m := by omega
      have em : (mReading m ((q00, q01), q1, q2)).2 = m + 1 + 1 + 1 + 1 := rfl
      rw [em] at bd
      have m1 : m + 1 + 1 + 1 + 1 ≤ 4398046511104 := by have h := H1.out; have e : (mReadingS k xs).2 = (markL mReading k xs).2 := rfl; omega
      have n0_1 := fun (W : World) (v : Value) => cell_setCell_ne (w := W) (b := b) (o := off + i * 4) (o' := off + i * 4 + 1) (v := v) (by omega)
      have n0_2 := fun (W : World) (v : Value) => cell_setCell_ne (w := W) (b := b) (o := off + i * 4) (o' := off + i * 4 + 2) (v := v) (by omega)
      have n0_3 := fun (W : World) (v : Value) => cell_setCell_ne (w := W) (b := b) (o := off + i * 4) (o' := off + i * 4 + 3) (v := v) (by omega)
      have n1_0 := fun (W : World) (v : Value) => cell_setCell_ne (w := W) (b := b) (o := off + i * 4 + 1) (o' := off + i * 4) (v := v) (by omega)
      have n1_2 := fun (W : World) (v : Value) => cell_setCell_ne (w := W) (b := b) (o := off + i * 4 + 1) (o' := off + i * 4 + 2) (v := v) (by omega)
      have n1_3 := fun (W : World) (v : Value) => cell_setCell_ne (w := W) (b := b) (o := off + i * 4 + 1) (o' := off + i * 4 + 3) (v := v) (by omega)
      have n2_0 := fun (W : World) (v : Value) => cell_setCell_ne (w := W) (b := b) (o := off + i * 4 + 2) (o' := off + i * 4) (v := v) (by omega)
      have n2_1 := fun (W : World) (v : Value) => cell_setCell_ne (w := W) (b := b) (o := off + i * 4 + 2) (o' := off + i * 4 + 1) (v := v) (by omega)
      have n2_3 := fun (W : World) (v : Value) => cell_setCell_ne (w := W) (b := b) (o := off + i * 4 + 2) (o' := off + i * 4 + 3) (v := v) (by omega)
      have n3_0 := fun (W : World) (v : Value) => cell_setCell_ne (w := W) (b := b) (o := off + i * 4 + 3) (o' := off + i * 4) (v := v) (by omega)
      have n3_1 := fun (W : World) (v : Value) => cell_setCell_ne (w := W) (b := b) (o := off + i * 4 + 3) (o' := off + i * 4 + 1) (v := v) (by omega)
      have n3_2 := fun (W : World) (v : Value) => cell_setCell_ne (w := W) (b := b) (o := off + i * 4 + 3) (o' := off + i * 4 + 2) (v := v) (by omega)
      have fz := fun (W : World) (o o' : Nat) (v : Value) => (frozen_setCell' : (W.setCell ⟨b, o, none⟩ v).frozen? ⟨b, o', none⟩ = W.frozen? ⟨b, o', none⟩)
      have Hq00 := Lib.hid (wf_mark (y := m) (by omega) (by omega))
      have Hq01 := Lib.hid (mtx_size (m + 1) (by omega))
      have Hq1 := Lib.hid (wf_mark (y := m + 1 + 1) (by omega) (by omega))
      have Hq2 := Lib.hid (mtx_size (m + 1 + 1 + 1) (by omega))
      clear hc hz hput bd2 g3 em hy hr hcs hq00 hq01 hq1 hq2
      have Hbn := Lib.hid hbn
      have Hnq := Lib.hid hnq
      have Hsub := Lib.hid hsub
      clear hbn hnq hsub
      go_wp2_with fail
      refine (markText_any (m + 1) _ (by omega) (by omega)).mono ?_
      rintro e w1 ⟨rfl, x1, rfl⟩
      go_wp2_with fail
      refine (markText_any (m + 1 + 1 + 1) _ (by omega) (by omega)).mono ?_
      rintro e w3 ⟨rfl, x3, rfl⟩
      go_wp2_with fail
      refine ⟨⟨i + 1, m + 1 + 1 + 1 + 1, by omega, Lib.hid ?_, ?_, ?_, by go_num, rfl⟩, by simp [intOf]; omega⟩
      · rw [markK_succ mReading k xs hlt, ← hm.out, ← HY.out]; rfl
      · rw [markT_succ mReading k xs hlt, ← hm.out, ← HY.out]
        refine HP.out _ [.int .i64 (m), .string (mtx (m + 1)), .int .i64 (m + 1 + 1), .string (mtx (m + 1 + 1 + 1))] (mReading m ((q00, q01), q1, q2)).1 (by repeat (first | with_reducible refine Foc.set ?_ (by simp [Rd.n] <;> omega) (by simp [Rd.n] <;> omega) _ | with_reducible refine Foc.gr ?_ bl (Gr.ext (Gr.refl _) _) | exact Foc.refl _ _ _ _ _)) (fun j v hj => ?_) (rdReading_mk (m) (mtx (m + 1)) (m + 1 + 1) (mtx (m + 1 + 1 + 1)) Hq00.out Hq01.out Hq1.out Hq2.out)
        have en : off + i * Rd.n GReading = off + i * 4 := rfl
        rw [en]
        match j, hj with
        | 0, hj => obtain rfl := Option.some.inj hj; go_simp
        | 1, hj => obtain rfl := Option.some.inj hj; go_simp
        | 2, hj => obtain rfl := Option.some.inj hj; go_simp
        | 3, hj => obtain rfl := Option.some.inj hj; go_simp
      · repeat (first | with_reducible refine Wr.setCell ?_ hbm _ | with_reducible refine Wr.gr ?_ (Gr.ext (Gr.refl _) _) | exact HW.out)
    · have hk2 : i = xs.length := by omega
      subst hk2
      have hs2 := HS.out
      rw [markT_all] at hs2
      have hm2 := hm.out
      rw [List.take_length] at hm2
      have HS2 := Lib.hid hs2
      have HM2 := Lib.hid hm2
      clear hs2 hm2 HS hm
      go_wp2
      go_ret
      exact ⟨ret_int HM2.out, HS2.out, HW.out⟩

set_option maxHeartbeats 1000000 in
theorem heldReadingS_any (fp : List Nat) (u : Value) (xs : List GReading) (k : Int) (w : World) (hu : SlR fp w u (mReadingS k xs).1) (h0 : 0 < k) (h1 : (mReadingS k xs).2 ≤ 4398046511104) :
    Calls Try.prog 85 #[u, .int .i64 k] w fun e w' => e = .returned (.int .i64 (mReadingS k xs).2) ∧ Gr w w' := by
  obtain ⟨a, ca, rfl, g1, g2, g3⟩ := hu.open
  have H1 := Lib.hid h1
  clear h1
  have hml : (mReadingS k xs).1.length = xs.length := markL_len mReading xs k
  rw [hml] at g1 g2 g3 hu ⊢
  clear hml
  go_enter Try.func85, Try.ntmps85
  go_wp2
  go_loopw [5, 1] (fun s5 s1 wr => ∃ (i : Nat) (m : Int), i ≤ xs.length ∧ Hid (m = (markL mReading k (xs.take i)).2) ∧ Gr w wr ∧ s5 = .int .i64 i ∧ s1 = .int .i64 m) (fun s5 _ _ => xs.length - (intOf s5).toNat)
  case atStart => exact ⟨0, k, by omega, Lib.hid (by simp [markL]), Gr.refl _, rfl, rfl⟩
  case round =>
    obtain ⟨i, m, hi, hm, ⟨x, rfl⟩, rfl, rfl⟩ := hrel
    by_cases hlt : i < xs.length
    · have hlt' : i < (markL mReading k xs).1.length := by rw [markL_len]; exact hlt
      obtain ⟨b, off, rfl, hb⟩ := g3 i hlt
      obtain ⟨cs, fq, hc, hr, -⟩ := SlR.at (xs := (markL mReading k xs).1) hu hlt'
      rw [markL_at mReading k xs hlt, ← hm.out] at hr
      obtain ⟨y, hy⟩ : ∃ y, y = xs[i] := ⟨_, rfl⟩
      rw [← hy] at hr
      have HY := Lib.hid hy
      have bd := markL_take mReading mReading_mono k xs (i + 1)
      have bd2 := markL_take mReading mReading_mono k xs i
      rw [markK_succ mReading k xs hlt, ← hm.out, ← hy] at bd
      rw [← hm.out] at bd2
      obtain ⟨⟨q00, q01⟩, q1, q2⟩ := y
      obtain ⟨hcs, -, -, -, -, -⟩ := rdReading_inv (cs := cs.toArray) (m) (mtx (m + 1)) (m + 1 + 1) (mtx (m + 1 + 1 + 1)) (by rw [List.toList_toArray]; exact hr)
      obtain rfl : cs = [.int .i64 (m), .string (mtx (m + 1)), .int .i64 (m + 1 + 1), .string (mtx (m + 1 + 1 + 1))] := by have := congrArg Array.toList hcs; simpa using this
      have z0 : w.cell? ⟨b, off + i * 4, none⟩ = some (.int .i64 (m)) := by simpa [Rd.n] using hc 0 _ rfl
      have z1 : w.cell? ⟨b, off + i * 4 + 1, none⟩ = some (.string (mtx (m + 1))) := hc 1 _ rfl
      have z2 : w.cell? ⟨b, off + i * 4 + 2, none⟩ = some (.int .i64 (m + 1 + 1)) := hc 2 _ rfl
      have z3 : w.cell? ⟨b, off + i * 4 + 3, none⟩ = some (.string (mtx (m + 1 + 1 + 1))) := hc 3 _ rfl
      have m0 : 0 < m := by omega
      have em : (mReading m ((q00, q01), q1, q2)).2 = m + 1 + 1 + 1 + 1 := rfl
      rw [em] at bd
      have m1 : m + 1 + 1 + 1 + 1 ≤ 4398046511104 := by have h := H1.out; have e : (mReadingS k xs).2 = (markL mReading k xs).2 := rfl; omega
      clear hc bd bd2 g3 em hy hr hcs
      go_wp2_with fail
      refine wp_region_grown (by kernel_rfl) (by kernel_rfl) ?_
      repeat (go_big_quiet_step ((go_at_call 80; exact grown_call (markText_any (m + 1) _ (by omega) (by omega)))))
      refine wpQuiet_nil ?_
      intro _ hw'
      obtain ⟨nx1, hw''⟩ := hw'
      subst hw''
      go_wp2_with fail
      refine wp_region_grown (by kernel_rfl) (by kernel_rfl) ?_
      repeat (go_big_quiet_step ((go_at_call 80; exact grown_call (markText_any (m + 1 + 1 + 1) _ (by omega) (by omega)))))
      refine wpQuiet_nil ?_
      intro _ hw'
      obtain ⟨nx3, hw''⟩ := hw'
      subst hw''
      go_wp2_with fail
      refine ⟨⟨i + 1, m + 1 + 1 + 1 + 1, by omega, Lib.hid ?_, (by repeat (first | exact Gr.refl _ | apply Gr.ext | apply Gr.alloc | apply Gr.drew)), by go_num, rfl⟩, by simp [intOf]; omega⟩
      rw [markK_succ mReading k xs hlt, ← hm.out, ← HY.out]; rfl
    · have hk2 : i = xs.length := by omega
      subst hk2
      have hm2 := hm.out
      rw [List.take_length] at hm2
      have HM2 := Lib.hid hm2
      clear hm2 hm
      go_wp2
      go_ret
      exact ⟨ret_int HM2.out, (by repeat (first | exact Gr.refl _ | apply Gr.ext | apply Gr.alloc | apply Gr.drew))⟩

end Go.Proofs.Ytkfaihfgjiahdaa
