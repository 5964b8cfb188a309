/- Contracts of the functions that mark and look at marks: Cell*, Store. Made by mk_mark.py. No condition. -/
import Derived.Test.YtmfcagcanhmdbaaMarkInts
import Derived.Test.YtmfcagcanhmdbaaFamCell
namespace Go.Proofs.Ytmfcagcanhmdbaa
open Go.RowKit

/-- The marks of an element. -/
def mCell (k : Int) : GCell → GCell × Int
  | (_, _, q2) => ((mtx (k), k + 1, (mIntS (k + 1 + 1) q2).1), (mIntS (k + 1 + 1) q2).2)
theorem mCell_bd (k : Int) (x : GCell) : k ≤ (mCell k x).2 ∧ (mCell k x).2 ≤ k + 16 * (1 + wtCell x) := by
  obtain ⟨q0, q1, q2⟩ := x
  have bq2 := mIntS_bd (k + 1 + 1) q2
  have hw : wtCell (q0, q1, q2) = (q0.size) + (q2.length) := rfl
  simp only [mCell] at *
  omega
theorem mCell_mono (k : Int) (x : GCell) : k ≤ (mCell k x).2 := (mCell_bd k x).1
def mCellS (k : Int) (x : List GCell) : List GCell × Int := markL mCell k x
theorem mCellS_len (k : Int) (x : List GCell) : (mCellS k x).1.length = x.length := markL_len _ _ _
theorem mCellS_bd (k : Int) (x : List GCell) : k ≤ (mCellS k x).2 ∧ (mCellS k x).2 ≤ k + 16 * wtCellS x := by
  have := markL_bd mCell wtCell mCell_bd x k
  unfold mCellS wtCellS
  exact this
theorem mCellS_mono (k : Int) (x : List GCell) : k ≤ (mCellS k x).2 := (mCellS_bd k x).1


set_option maxHeartbeats 1000000 in
theorem markCellS_any (fp : List Nat) (u : Value) (xs : List GCell) (k : Int) (w : World) (hu : SlR fp w u xs) (hnd : fp.Nodup) (h0 : 0 < k) (h1 : (mCellS k xs).2 ≤ 4398046511104) :
    Calls Try.prog 43 #[u, .int .i64 k] w fun e w' => e = .returned (.int .i64 (mCellS k xs).2) ∧ SlR fp w' u (mCellS k xs).1 ∧ Wr fp w w' := by
  obtain ⟨a, ca, rfl, g1, g2, g3⟩ := hu.open
  have H1 := Lib.hid h1
  clear h1
  go_enter Try.func43, Try.ntmps43
  go_wp2
  go_loopw [5, 1] (fun s5 s1 wr => ∃ (i : Nat) (m : Int), i ≤ xs.length ∧ Hid (m = (markL mCell k (xs.take i)).2) ∧ SlR fp wr (.slice a xs.length ca) (markT mCell k xs i) ∧ Wr fp w wr ∧ s5 = .int .i64 i ∧ s1 = .int .i64 m) (fun s5 _ _ => xs.length - (intOf s5).toNat)
  case atStart => exact ⟨0, k, by omega, Lib.hid (by simp [markL]), by rw [markT_zero]; exact hu, Wr.refl _ _, rfl, rfl⟩
  case round =>
    obtain ⟨i, m, hi, hm, hs, hW, rfl, rfl⟩ := hrel
    have HS := Lib.hid hs
    have HW := Lib.hid hW
    clear hs hW
    by_cases hlt : i < xs.length
    · obtain ⟨b, off, rfl, hb⟩ := g3 i hlt
      have hlt' : i < (markT mCell k xs i).length := by rw [markT_len]; exact hlt
      obtain ⟨cs, fq, hc, hr, hsub, hbm, hbn, hnq, hz, hput⟩ := HS.out.focus hnd hlt'
      have HP := Lib.hid hput
      rw [markT_at mCell k xs hlt] at hr
      obtain ⟨y, hy⟩ : ∃ y, y = xs[i] := ⟨_, rfl⟩
      rw [← hy] at hr
      have HY := Lib.hid hy
      have bd := markL_take mCell mCell_mono k xs (i + 1)
      have bd2 := markL_take mCell mCell_mono k xs i
      rw [markK_succ mCell k xs hlt, ← hm.out, ← hy] at bd
      rw [← hm.out] at bd2
      obtain ⟨q0, q1, q2⟩ := y
      obtain ⟨vq2, fq2, hcs, hfq, hq0, hq1, hq2⟩ := rdCell_inv (cs := cs.toArray) q0 q1 q2 (by simpa using hr)
      obtain rfl : cs = [.string q0, .int .i64 q1, vq2] := by have := congrArg Array.toList hcs; simpa using this
      rw [hfq] at hsub hbn hnq HP hput hr
      clear hfq
      have z0 : wr.cell? ⟨b, off + i * 3, none⟩ = some (.string q0) := by simpa [Rd.n] using hc 0 _ rfl
      have z1 : wr.cell? ⟨b, off + i * 3 + 1, none⟩ = some (.int .i64 q1) := hc 1 _ rfl
      have z2 : wr.cell? ⟨b, off + i * 3 + 2, none⟩ = some (vq2) := hc 2 _ rfl
      have f0 : wr.frozen? ⟨b, off + i * 3, none⟩ = false := by simpa [Rd.n] using hz 0 (by decide)
      have f1 : wr.frozen? ⟨b, off + i * 3 + 1, none⟩ = false := hz 1 (by decide)
      have bl := blk z0
      have m0 : 0 < m := by omega
      have em : (mCell m (q0, q1, q2)).2 = (mIntS (m + 1 + 1) q2).2 := rfl
      rw [em] at bd
      have bq2 := mIntS_mono (m + 1 + 1) q2
      have m1 : (mIntS (m + 1 + 1) q2).2 ≤ 4398046511104 := by have h := H1.out; have e : (mCellS k xs).2 = (markL mCell k xs).2 := rfl; omega
      have n0_1 := fun (W : World) (v : Value) => cell_setCell_ne (w := W) (b := b) (o := off + i * 3) (o' := off + i * 3 + 1) (v := v) (by omega)
      have n0_2 := fun (W : World) (v : Value) => cell_setCell_ne (w := W) (b := b) (o := off + i * 3) (o' := off + i * 3 + 2) (v := v) (by omega)
      have n1_0 := fun (W : World) (v : Value) => cell_setCell_ne (w := W) (b := b) (o := off + i * 3 + 1) (o' := off + i * 3) (v := v) (by omega)
      have n1_2 := fun (W : World) (v : Value) => cell_setCell_ne (w := W) (b := b) (o := off + i * 3 + 1) (o' := off + i * 3 + 2) (v := v) (by omega)
      have fz := fun (W : World) (o o' : Nat) (v : Value) => (frozen_setCell' : (W.setCell ⟨b, o, none⟩ v).frozen? ⟨b, o', none⟩ = W.frozen? ⟨b, o', none⟩)
      have Hq0 := Lib.hid (mtx_size (m) (by omega))
      have Hq1 := Lib.hid (wf_mark (y := m + 1) (by omega) (by omega))
      have N0 : (fq2).Nodup := by simpa only [List.nil_append, List.append_nil] using hnq
      have M0 : b ∉ fq2 := by simpa only [List.nil_append, List.append_nil] using hbn
      have uq2 := N0
      have dq2 : b ∉ fq2 := fun h => M0 (by simp [h])
      have Sq2 := Lib.hid hq2
      obtain ⟨aaq2, ccq2, rfl, -, -, -⟩ := hq2.open
      have Hdq2 := Lib.hid dq2
      have Huq2 := Lib.hid uq2
      clear dq2 uq2 M0 N0  hq2
      clear hc hz hput bd2 g3 em hy hr hcs hq0 hq1
      have Hbn := Lib.hid hbn
      have Hnq := Lib.hid hnq
      have Hsub := Lib.hid hsub
      clear hbn hnq hsub
      go_wp2_with fail
      refine (markText_any (m) _ (by omega) (by omega)).mono ?_
      rintro e w0 ⟨rfl, x0, rfl⟩
      go_wp2_with fail
      refine (markIntS_any fq2 _ q2 (m + 1 + 1) _ ((SlR.wr Sq2.out (fp := [b]) (by repeat (first | with_reducible refine Wr.setCell ?_ (by simp) _ | with_reducible refine Wr.gr ?_ (Gr.ext (Gr.refl _) _) | exact Wr.refl _ _)) (by have := Hdq2.out; intro c hc hcb; simp at hcb; subst hcb; exact this hc))) Huq2.out (by omega) (by show (mIntS (m + 1 + 1) q2).2 ≤ _; omega)).mono ?_
      rintro e y2 ⟨rfl, t2, r2⟩
      have T2 := Lib.hid t2
      have R2 := Lib.hid r2
      clear t2 r2
      have F2 := Lib.hid (Foc.inner (b := b) (lo := off + i * Rd.n GCell) (n := Rd.n GCell) (fq := ([] ++ ([] ++ fq2))) (w := wr) (by repeat (first | with_reducible refine Foc.set ?_ (by simp [Rd.n] <;> omega) (by simp [Rd.n] <;> omega) _ | with_reducible refine Foc.gr ?_ bl (Gr.ext (Gr.refl _) _) | exact Foc.refl _ _ _ _ _)) bl R2.out (by intro c hc; simp [hc]) Hdq2.out)
      have Sq2x2 := T2
      have e2 := R2.out.block b (Nat.lt_of_lt_of_le bl (Foc.wr (b := b) (lo := off + i * Rd.n GCell) (n := Rd.n GCell) (fq := ([] ++ ([] ++ fq2))) (w := wr) (by repeat (first | with_reducible refine Foc.set ?_ (by simp [Rd.n] <;> omega) (by simp [Rd.n] <;> omega) _ | with_reducible refine Foc.gr ?_ bl (Gr.ext (Gr.refl _) _) | exact Foc.refl _ _ _ _ _))).size) Hdq2.out
      have c2 := fun (o : Nat) => World.cell?_of_block (a := ⟨b, o, none⟩) e2
      have z0x2 : y2.cell? ⟨b, off + i * 3, none⟩ = some (.string (mtx (m))) := (c2 _).trans (by go_simp)
      have z1x2 : y2.cell? ⟨b, off + i * 3 + 1, none⟩ = some (.int .i64 (m + 1)) := (c2 _).trans (by go_simp)
      have z2x2 : y2.cell? ⟨b, off + i * 3 + 2, none⟩ = some (.slice aaq2 q2.length ccq2) := (c2 _).trans (by go_simp)
      have s2 := R2.out.size
      clear e2 c2 z0 z1 z2
      clear fz n0_1 n0_2 n1_0 n1_2 f0 f1
      go_wp2_with fail
      refine ⟨⟨i + 1, (mIntS (m + 1 + 1) q2).2, by omega, Lib.hid ?_, ?_, ?_, by go_num, rfl⟩, by simp [intOf]; omega⟩
      · rw [markK_succ mCell k xs hlt, ← hm.out, ← HY.out]; rfl
      · rw [markT_succ mCell k xs hlt, ← hm.out, ← HY.out]
        refine HP.out _ [.string (mtx (m)), .int .i64 (m + 1), .slice aaq2 q2.length ccq2] (mCell m (q0, q1, q2)).1 (by repeat (first | with_reducible refine Foc.set ?_ (by simp [Rd.n] <;> omega) (by simp [Rd.n] <;> omega) _ | with_reducible refine Foc.gr ?_ bl (Gr.ext (Gr.refl _) _) | exact F2.out)) (fun j v hj => ?_) (rdCell_mk (mtx (m)) (m + 1) ((mIntS (m + 1 + 1) q2).1) Hq0.out Hq1.out (SlR.wr Sq2x2.out (fp := [b]) (by repeat (first | with_reducible refine Wr.setCell ?_ (by simp) _ | with_reducible refine Wr.gr ?_ (Gr.ext (Gr.refl _) _) | exact Wr.refl _ _)) (by have := Hdq2.out; intro c hc hcb; simp at hcb; subst hcb; exact this hc)))
        have en : off + i * Rd.n GCell = off + i * 3 := rfl
        rw [en]
        match j, hj with
        | 0, hj => obtain rfl := Option.some.inj hj; exact z0x2
        | 1, hj => obtain rfl := Option.some.inj hj; exact z1x2
        | 2, hj => obtain rfl := Option.some.inj hj; exact z2x2
      · exact HW.out.trans (Wr.sub (Foc.wr (b := b) (lo := off + i * Rd.n GCell) (n := Rd.n GCell) (fq := ([] ++ ([] ++ fq2))) (by repeat (first | with_reducible refine Foc.set ?_ (by simp [Rd.n] <;> omega) (by simp [Rd.n] <;> omega) _ | with_reducible refine Foc.gr ?_ bl (Gr.ext (Gr.refl _) _) | exact F2.out))) (fun c hc => by
          rcases List.mem_cons.1 hc with rfl | hc
          · exact hbm
          · exact Hsub.out c hc))
    · have hk2 : i = xs.length := by omega
      subst hk2
      have hs2 := HS.out
      rw [markT_all] at hs2
      have hm2 := hm.out
      rw [List.take_length] at hm2
      have HS2 := Lib.hid hs2
      have HM2 := Lib.hid hm2
      clear hs2 hm2 HS hm
      go_wp2
      go_ret
      exact ⟨ret_int HM2.out, HS2.out, HW.out⟩

set_option maxHeartbeats 1000000 in
theorem heldCellS_any (fp : List Nat) (u : Value) (xs : List GCell) (k : Int) (w : World) (hu : SlR fp w u (mCellS k xs).1) (h0 : 0 < k) (h1 : (mCellS k xs).2 ≤ 4398046511104) :
    Calls Try.prog 45 #[u, .int .i64 k] w fun e w' => e = .returned (.int .i64 (mCellS k xs).2) ∧ Gr w w' := by
  obtain ⟨a, ca, rfl, g1, g2, g3⟩ := hu.open
  have H1 := Lib.hid h1
  clear h1
  have hml : (mCellS k xs).1.length = xs.length := markL_len mCell xs k
  rw [hml] at g1 g2 g3 hu ⊢
  clear hml
  go_enter Try.func45, Try.ntmps45
  go_wp2
  go_loopw [5, 1] (fun s5 s1 wr => ∃ (i : Nat) (m : Int), i ≤ xs.length ∧ Hid (m = (markL mCell k (xs.take i)).2) ∧ Gr w wr ∧ s5 = .int .i64 i ∧ s1 = .int .i64 m) (fun s5 _ _ => xs.length - (intOf s5).toNat)
  case atStart => exact ⟨0, k, by omega, Lib.hid (by simp [markL]), Gr.refl _, rfl, rfl⟩
  case round =>
    obtain ⟨i, m, hi, hm, ⟨x, rfl⟩, rfl, rfl⟩ := hrel
    by_cases hlt : i < xs.length
    · have hlt' : i < (markL mCell k xs).1.length := by rw [markL_len]; exact hlt
      obtain ⟨b, off, rfl, hb⟩ := g3 i hlt
      obtain ⟨cs, fq, hc, hr, -⟩ := SlR.at (xs := (markL mCell k xs).1) hu hlt'
      rw [markL_at mCell k xs hlt, ← hm.out] at hr
      obtain ⟨y, hy⟩ : ∃ y, y = xs[i] := ⟨_, rfl⟩
      rw [← hy] at hr
      have HY := Lib.hid hy
      have bd := markL_take mCell mCell_mono k xs (i + 1)
      have bd2 := markL_take mCell mCell_mono k xs i
      rw [markK_succ mCell k xs hlt, ← hm.out, ← hy] at bd
      rw [← hm.out] at bd2
      obtain ⟨q0, q1, q2⟩ := y
      obtain ⟨vq2, fq2, hcs, -, -, -, hq2⟩ := rdCell_inv (cs := cs.toArray) (mtx (m)) (m + 1) ((mIntS (m + 1 + 1) q2).1) (by rw [List.toList_toArray]; exact hr)
      obtain rfl : cs = [.string (mtx (m)), .int .i64 (m + 1), vq2] := by have := congrArg Array.toList hcs; simpa using this
      have z0 : w.cell? ⟨b, off + i * 3, none⟩ = some (.string (mtx (m))) := by simpa [Rd.n] using hc 0 _ rfl
      have z1 : w.cell? ⟨b, off + i * 3 + 1, none⟩ = some (.int .i64 (m + 1)) := hc 1 _ rfl
      have z2 : w.cell? ⟨b, off + i * 3 + 2, none⟩ = some (vq2) := hc 2 _ rfl
      have m0 : 0 < m := by omega
      have em : (mCell m (q0, q1, q2)).2 = (mIntS (m + 1 + 1) q2).2 := rfl
      rw [em] at bd
      have bq2 := mIntS_mono (m + 1 + 1) q2
      have m1 : (mIntS (m + 1 + 1) q2).2 ≤ 4398046511104 := by have h := H1.out; have e : (mCellS k xs).2 = (markL mCell k xs).2 := rfl; omega
      have Sq2 := Lib.hid hq2
      clear hc bd bd2 g3 em hy hr hcs hq2
      go_wp2_with fail
      refine wp_region_grown (by kernel_rfl) (by kernel_rfl) ?_
      repeat (go_big_quiet_step ((go_at_call 75; exact grown_call (markText_any (m) _ (by omega) (by omega)))))
      refine wpQuiet_nil ?_
      intro _ hw'
      obtain ⟨nx0, hw''⟩ := hw'
      subst hw''
      go_wp2_with fail
      refine (heldIntS_any fq2 vq2 q2 (m + 1 + 1) _ (Sq2.out.gr (by repeat (first | exact Gr.refl _ | apply Gr.ext | apply Gr.alloc | apply Gr.drew))) (by omega) (by show (mIntS (m + 1 + 1) q2).2 ≤ _; omega)).mono ?_
      rintro e w2 ⟨rfl, x2, rfl⟩
      have nn2 : 0 ≤ (mIntS (m + 1 + 1) q2).2 := by omega
      rw [show (markL mInt (m + 1 + 1) q2).2 = (mIntS (m + 1 + 1) q2).2 from rfl]
      go_wp2_with fail
      refine ⟨⟨i + 1, (mIntS (m + 1 + 1) q2).2, by omega, Lib.hid ?_, (by repeat (first | exact Gr.refl _ | apply Gr.ext | apply Gr.alloc | apply Gr.drew)), by go_num, rfl⟩, by simp [intOf]; omega⟩
      rw [markK_succ mCell k xs hlt, ← hm.out, ← HY.out]; rfl
    · have hk2 : i = xs.length := by omega
      subst hk2
      have hm2 := hm.out
      rw [List.take_length] at hm2
      have HM2 := Lib.hid hm2
      clear hm2 hm
      go_wp2
      go_ret
      exact ⟨ret_int HM2.out, (by repeat (first | exact Gr.refl _ | apply Gr.ext | apply Gr.alloc | apply Gr.drew))⟩

/-- The marks of a value. -/
def vStore (k : Int) : GStore → GStore × Int
  | q0 => ((mCellS (k) q0).1, (mCellS (k) q0).2)
theorem vStore_bd (k : Int) (x : GStore) : k ≤ (vStore k x).2 ∧ (vStore k x).2 ≤ k + 16 * (1 + wtStore x) := by
  obtain ⟨q0, rfl⟩ : ∃ yy, yy = x := ⟨_, rfl⟩
  have bq0 := mCellS_bd (k) q0
  have hw : wtStore q0 = (wtCellS q0) := rfl
  simp only [vStore] at *
  omega

set_option maxHeartbeats 1000000 in
theorem markStore_any (fp : List Nat) (cs : Array Value) (x : GStore) (k : Int) (w : World) (hx : Rd.rd fp w cs.toList x) (hnd : fp.Nodup) (h0 : 0 < k) (h1 : (vStore k x).2 ≤ 4398046511104) :
    Calls Try.prog 14 #[.agg cs, .int .i64 k] w fun e w' => e = .returned (.int .i64 (vStore k x).2) ∧ Rd.rd fp w' cs.toList (vStore k x).1 ∧ Wr fp w w' := by
  have hlt := Rd.lt hx
  obtain ⟨q0, rfl⟩ : ∃ yy, yy = x := ⟨_, rfl⟩
  obtain ⟨vq0, fq0, rfl, hfq, hq0⟩ := rdStore_inv q0 hx
  rw [hfq] at hlt hnd hx ⊢
  clear hfq
  have m1 : (mCellS (k) q0).2 ≤ 4398046511104 := h1
  have N0 : (fq0).Nodup := by simpa only [List.nil_append, List.append_nil] using hnd
  have L0 : ∀ c ∈ (fq0), c < w.heap.size := by simpa only [List.nil_append, List.append_nil] using hlt
  have uq0 := N0
  have Hlq0 := Lib.hid (fun c (h : c ∈ fq0) => L0 c (by simp [h]))
  have Huq0 := Lib.hid uq0
  have bq0 := mCellS_mono (k) q0
  have Sq0 := Lib.hid hq0
  obtain ⟨aq0, cq0, rfl, -, -, -⟩ := hq0.open
  clear hx hlt h1 hnd L0  hq0 uq0  N0
  go_enter Try.func14, Try.ntmps14
  go_wp2_with fail
  refine (markCellS_any fq0 _ q0 (k) _ (Sq0.out.gr (by repeat (first | exact Gr.refl _ | apply Gr.ext | apply Gr.alloc | apply Gr.drew))) Huq0.out (by omega) (by show (mCellS (k) q0).2 ≤ _; omega)).mono ?_
  rintro e y0 ⟨rfl, t0, r0⟩
  have T0 := Lib.hid t0
  have R0 := Lib.hid r0
  clear t0 r0
  have W0 := Lib.hid ((Gr.toWr (by exact (by repeat (first | exact Gr.refl _ | apply Gr.ext | apply Gr.alloc | apply Gr.drew)) : Gr w (w.alloc (.cells #[.slice aq0 q0.length cq0] 32))) (fq0)).trans (R0.out.sub (fun c hc => by simp [hc])))
  go_wp2_with fail
  go_ret
  refine ⟨rfl, ?_, W0.out.sub (fun c hc => by simpa using hc)⟩
  have hl := rdStore_mk ((mCellS (k) q0).1) T0.out
  exact hl

set_option maxHeartbeats 1000000 in
theorem heldStore_any (fp : List Nat) (cs : Array Value) (x : GStore) (k : Int) (w : World) (hx : Rd.rd fp w cs.toList (vStore k x).1) (h0 : 0 < k) (h1 : (vStore k x).2 ≤ 4398046511104) :
    Calls Try.prog 16 #[.agg cs, .int .i64 k] w fun e w' => e = .returned (.int .i64 (vStore k x).2) ∧ Gr w w' := by
  obtain ⟨q0, rfl⟩ : ∃ yy, yy = x := ⟨_, rfl⟩
  obtain ⟨vq0, fq0, rfl, -, hq0⟩ := rdStore_inv ((mCellS (k) q0).1) hx
  have m1 : (mCellS (k) q0).2 ≤ 4398046511104 := h1
  have bq0 := mCellS_mono (k) q0
  have Sq0 := Lib.hid hq0
  obtain ⟨aq0, cq0, rfl, -, -, -⟩ := hq0.open
  clear hx h1 hq0
  go_enter Try.func16, Try.ntmps16
  go_wp2_with fail
  refine (heldCellS_any fq0 _ q0 (k) _ (Sq0.out.gr (by repeat (first | exact Gr.refl _ | apply Gr.ext | apply Gr.alloc | apply Gr.drew))) (by omega) (by show (mCellS (k) q0).2 ≤ _; omega)).mono ?_
  rintro e w0 ⟨rfl, x0, rfl⟩
  have nn0 : 0 ≤ (mCellS (k) q0).2 := by omega
  go_wp2_with fail
  go_ret
  exact ⟨rfl, (by repeat (first | exact Gr.refl _ | apply Gr.ext | apply Gr.alloc | apply Gr.drew))⟩

end Go.Proofs.Ytmfcagcanhmdbaa
