/- Contracts of the functions that mark and look at marks: Node*, Tree. Made by mk_mark.py. Contracts of the functions that mark and look at marks: Instance*, Reading*. Made by mk_mark.py. Contracts of the functions that mark and look at marks: Entry*:m. Made by mk_mark.py. Contracts of the functions that mark and look at marks: Entry, Memo:m. Made by mk_mark.py. No condition. -/
import Derived.Test.YtbfmeiooeaaibaaGreatXMark
import Derived.Test.YtbfmeiooeaaibaaGreatFamTree
import Derived.Test.YtbfmeiooeaaibaaGreatFamRead
import Derived.Test.YtbfmeiooeaaibaaGreatFamEntry
namespace Go.Proofs.YtbfmeiooeaaibaaGreat
open Go.RowKit

/-- The marks of an element. -/
def mNode (k : Int) : GNode → GNode × Int
  | (_, _, _, _, _, q5) => ((k, k + 1, k + 1 + 1, k + 1 + 1 + 1, mtx (k + 1 + 1 + 1 + 1), (mIntS (k + 1 + 1 + 1 + 1 + 1) q5).1), (mIntS (k + 1 + 1 + 1 + 1 + 1) q5).2)
theorem mNode_bd (k : Int) (x : GNode) : k ≤ (mNode k x).2 ∧ (mNode k x).2 ≤ k + 16 * (1 + wtNode x) := by
  obtain ⟨q0, q1, q2, q3, q4, q5⟩ := x
  have bq5 := mIntS_bd (k + 1 + 1 + 1 + 1 + 1) q5
  have hw : wtNode (q0, q1, q2, q3, q4, q5) = (q4.size) + (q5.length) := rfl
  simp only [mNode] at *
  omega
theorem mNode_mono (k : Int) (x : GNode) : k ≤ (mNode k x).2 := (mNode_bd k x).1
def mNodeS (k : Int) (x : List GNode) : List GNode × Int := markL mNode k x
theorem mNodeS_len (k : Int) (x : List GNode) : (mNodeS k x).1.length = x.length := markL_len _ _ _
theorem mNodeS_bd (k : Int) (x : List GNode) : k ≤ (mNodeS k x).2 ∧ (mNodeS k x).2 ≤ k + 16 * wtNodeS x := by
  have := markL_bd mNode wtNode mNode_bd x k
  unfold mNodeS wtNodeS
  exact this
theorem mNodeS_mono (k : Int) (x : List GNode) : k ≤ (mNodeS k x).2 := (mNodeS_bd k x).1

set_option maxHeartbeats 4000000 in
theorem markNodeS_any (fp : List Nat) (u : Value) (xs : List GNode) (k : Int) (w : World) (hu : SlR fp w u xs) (hnd : fp.Nodup) (h0 : 0 < k) (h1 : (mNodeS k xs).2 ≤ 4398046511104) :
    Calls Tryz.prog 55 #[u, .int .i64 k] w fun e w' => e = .returned (.int .i64 (mNodeS k xs).2) ∧ SlR fp w' u (mNodeS k xs).1 ∧ Wr fp w w' := by
  obtain ⟨a, ca, rfl, g1, g2, g3⟩ := hu.open
  have H1 := Lib.hid h1
  clear h1
  go_enter Tryz.func55, Tryz.ntmps55
  go_wp2
  go_loopw [5, 1] (fun s5 s1 wr => ∃ (i : Nat) (m : Int), i ≤ xs.length ∧ Hid (m = (markL mNode k (xs.take i)).2) ∧ SlR fp wr (.slice a xs.length ca) (markT mNode k xs i) ∧ Wr fp w wr ∧ s5 = .int .i64 i ∧ s1 = .int .i64 m) (fun s5 _ _ => xs.length - (intOf s5).toNat)
  case atStart => exact ⟨0, k, by omega, Lib.hid (by simp [markL]), by rw [markT_zero]; exact hu, Wr.refl _ _, rfl, rfl⟩
  case round =>
    obtain ⟨i, m, hi, hm, hs, hW, rfl, rfl⟩ := hrel
    have HS := Lib.hid hs
    have HW := Lib.hid hW
    clear hs hW
    by_cases hlt : i < xs.length
    · obtain ⟨b, off, rfl, hb⟩ := g3 i hlt
      have hlt' : i < (markT mNode k xs i).length := by rw [markT_len]; exact hlt
      obtain ⟨cs, fq, hc, hr, hsub, hbm, hbn, hnq, hz, hput⟩ := HS.out.focus hnd hlt'
      have HP := Lib.hid hput
      rw [markT_at mNode k xs hlt] at hr
      obtain ⟨y, hy⟩ : ∃ y, y = xs[i] := ⟨_, rfl⟩
      rw [← hy] at hr
      have HY := Lib.hid hy
      have bd := markL_take mNode mNode_mono k xs (i + 1)
      have bd2 := markL_take mNode mNode_mono k xs i
      rw [markK_succ mNode k xs hlt, ← hm.out, ← hy] at bd
      rw [← hm.out] at bd2
      obtain ⟨q0, q1, q2, q3, q4, q5⟩ := y
      obtain ⟨vq5, fq5, hcs, hfq, hq0, hq1, hq2, hq3, hq4, hq5⟩ := rdNode_inv (cs := cs.toArray) q0 q1 q2 q3 q4 q5 (by simpa using hr)
      obtain rfl : cs = [.int .i64 q0, .int .i64 q1, .int .i64 q2, .int .i64 q3, .string q4, vq5] := by have := congrArg Array.toList hcs; simpa using this
      rw [hfq] at hsub hbn hnq HP hput hr
      clear hfq
      have z0 : wr.cell? ⟨b, off + i * 6, none⟩ = some (.int .i64 q0) := by simpa [Rd.n] using hc 0 _ rfl
      have z1 : wr.cell? ⟨b, off + i * 6 + 1, none⟩ = some (.int .i64 q1) := hc 1 _ rfl
      have z2 : wr.cell? ⟨b, off + i * 6 + 2, none⟩ = some (.int .i64 q2) := hc 2 _ rfl
      have z3 : wr.cell? ⟨b, off + i * 6 + 3, none⟩ = some (.int .i64 q3) := hc 3 _ rfl
      have z4 : wr.cell? ⟨b, off + i * 6 + 4, none⟩ = some (.string q4) := hc 4 _ rfl
      have z5 : wr.cell? ⟨b, off + i * 6 + 5, none⟩ = some (vq5) := hc 5 _ rfl
      have f0 : wr.frozen? ⟨b, off + i * 6, none⟩ = false := by simpa [Rd.n] using hz 0 (by decide)
      have f1 : wr.frozen? ⟨b, off + i * 6 + 1, none⟩ = false := hz 1 (by decide)
      have f2 : wr.frozen? ⟨b, off + i * 6 + 2, none⟩ = false := hz 2 (by decide)
      have f3 : wr.frozen? ⟨b, off + i * 6 + 3, none⟩ = false := hz 3 (by decide)
      have f4 : wr.frozen? ⟨b, off + i * 6 + 4, none⟩ = false := hz 4 (by decide)
      have bl := blk z0
      have m0 : 0 < m := by omega
      have em : (mNode m (q0, q1, q2, q3, q4, q5)).2 = (mIntS (m + 1 + 1 + 1 + 1 + 1) q5).2 := rfl
      rw [em] at bd
      have bq5 := mIntS_mono (m + 1 + 1 + 1 + 1 + 1) q5
      have m1 : (mIntS (m + 1 + 1 + 1 + 1 + 1) q5).2 ≤ 4398046511104 := by have h := H1.out; have e : (mNodeS k xs).2 = (markL mNode k xs).2 := rfl; omega
      have n0_1 := fun (W : World) (v : Value) => cell_setCell_ne (w := W) (b := b) (o := off + i * 6) (o' := off + i * 6 + 1) (v := v) (by omega)
      have n0_2 := fun (W : World) (v : Value) => cell_setCell_ne (w := W) (b := b) (o := off + i * 6) (o' := off + i * 6 + 2) (v := v) (by omega)
      have n0_3 := fun (W : World) (v : Value) => cell_setCell_ne (w := W) (b := b) (o := off + i * 6) (o' := off + i * 6 + 3) (v := v) (by omega)
      have n0_4 := fun (W : World) (v : Value) => cell_setCell_ne (w := W) (b := b) (o := off + i * 6) (o' := off + i * 6 + 4) (v := v) (by omega)
      have n0_5 := fun (W : World) (v : Value) => cell_setCell_ne (w := W) (b := b) (o := off + i * 6) (o' := off + i * 6 + 5) (v := v) (by omega)
      have n1_0 := fun (W : World) (v : Value) => cell_setCell_ne (w := W) (b := b) (o := off + i * 6 + 1) (o' := off + i * 6) (v := v) (by omega)
      have n1_2 := fun (W : World) (v : Value) => cell_setCell_ne (w := W) (b := b) (o := off + i * 6 + 1) (o' := off + i * 6 + 2) (v := v) (by omega)
      have n1_3 := fun (W : World) (v : Value) => cell_setCell_ne (w := W) (b := b) (o := off + i * 6 + 1) (o' := off + i * 6 + 3) (v := v) (by omega)
      have n1_4 := fun (W : World) (v : Value) => cell_setCell_ne (w := W) (b := b) (o := off + i * 6 + 1) (o' := off + i * 6 + 4) (v := v) (by omega)
      have n1_5 := fun (W : World) (v : Value) => cell_setCell_ne (w := W) (b := b) (o := off + i * 6 + 1) (o' := off + i * 6 + 5) (v := v) (by omega)
      have n2_0 := fun (W : World) (v : Value) => cell_setCell_ne (w := W) (b := b) (o := off + i * 6 + 2) (o' := off + i * 6) (v := v) (by omega)
      have n2_1 := fun (W : World) (v : Value) => cell_setCell_ne (w := W) (b := b) (o := off + i * 6 + 2) (o' := off + i * 6 + 1) (v := v) (by omega)
      have n2_3 := fun (W : World) (v : Value) => cell_setCell_ne (w := W) (b := b) (o := off + i * 6 + 2) (o' := off + i * 6 + 3) (v := v) (by omega)
      have n2_4 := fun (W : World) (v : Value) => cell_setCell_ne (w := W) (b := b) (o := off + i * 6 + 2) (o' := off + i * 6 + 4) (v := v) (by omega)
      have n2_5 := fun (W : World) (v : Value) => cell_setCell_ne (w := W) (b := b) (o := off + i * 6 + 2) (o' := off + i * 6 + 5) (v := v) (by omega)
      have n3_0 := fun (W : World) (v : Value) => cell_setCell_ne (w := W) (b := b) (o := off + i * 6 + 3) (o' := off + i * 6) (v := v) (by omega)
      have n3_1 := fun (W : World) (v : Value) => cell_setCell_ne (w := W) (b := b) (o := off + i * 6 + 3) (o' := off + i * 6 + 1) (v := v) (by omega)
      have n3_2 := fun (W : World) (v : Value) => cell_setCell_ne (w := W) (b := b) (o := off + i * 6 + 3) (o' := off + i * 6 + 2) (v := v) (by omega)
      have n3_4 := fun (W : World) (v : Value) => cell_setCell_ne (w := W) (b := b) (o := off + i * 6 + 3) (o' := off + i * 6 + 4) (v := v) (by omega)
      have n3_5 := fun (W : World) (v : Value) => cell_setCell_ne (w := W) (b := b) (o := off + i * 6 + 3) (o' := off + i * 6 + 5) (v := v) (by omega)
      have n4_0 := fun (W : World) (v : Value) => cell_setCell_ne (w := W) (b := b) (o := off + i * 6 + 4) (o' := off + i * 6) (v := v) (by omega)
      have n4_1 := fun (W : World) (v : Value) => cell_setCell_ne (w := W) (b := b) (o := off + i * 6 + 4) (o' := off + i * 6 + 1) (v := v) (by omega)
      have n4_2 := fun (W : World) (v : Value) => cell_setCell_ne (w := W) (b := b) (o := off + i * 6 + 4) (o' := off + i * 6 + 2) (v := v) (by omega)
      have n4_3 := fun (W : World) (v : Value) => cell_setCell_ne (w := W) (b := b) (o := off + i * 6 + 4) (o' := off + i * 6 + 3) (v := v) (by omega)
      have n4_5 := fun (W : World) (v : Value) => cell_setCell_ne (w := W) (b := b) (o := off + i * 6 + 4) (o' := off + i * 6 + 5) (v := v) (by omega)
      have fz := fun (W : World) (o o' : Nat) (v : Value) => (frozen_setCell' : (W.setCell ⟨b, o, none⟩ v).frozen? ⟨b, o', none⟩ = W.frozen? ⟨b, o', none⟩)
      have Hq0 := Lib.hid (wf_mark (y := m) (by omega) (by omega))
      have Hq1 := Lib.hid (wf_mark (y := m + 1) (by omega) (by omega))
      have Hq2 := Lib.hid (wf_mark (y := m + 1 + 1) (by omega) (by omega))
      have Hq3 := Lib.hid (wf_mark (y := m + 1 + 1 + 1) (by omega) (by omega))
      have Hq4 := Lib.hid (mtx_size (m + 1 + 1 + 1 + 1) (by omega))
      have N0 : (fq5).Nodup := by simpa only [List.nil_append, List.append_nil] using hnq
      have M0 : b ∉ fq5 := by simpa only [List.nil_append, List.append_nil] using hbn
      have uq5 := N0
      have dq5 : b ∉ fq5 := fun h => M0 (by simp [h])
      have Sq5 := Lib.hid hq5
      obtain ⟨aaq5, ccq5, rfl, -, -, -⟩ := hq5.open
      have Hdq5 := Lib.hid dq5
      have Huq5 := Lib.hid uq5
      clear dq5 uq5 M0 N0  hq5
      clear hc hz hput bd2 g3 em hy hr hcs hq0 hq1 hq2 hq3 hq4
      have Hbn := Lib.hid hbn
      have Hnq := Lib.hid hnq
      have Hsub := Lib.hid hsub
      clear hbn hnq hsub
      go_wp2_with fail
      refine (markText_any (m + 1 + 1 + 1 + 1) _ (by omega) (by omega)).mono ?_
      rintro e w4 ⟨rfl, x4, rfl⟩
      go_wp2_with fail
      refine (markIntS_any fq5 _ q5 (m + 1 + 1 + 1 + 1 + 1) _ ((SlR.wr Sq5.out (fp := [b]) (by repeat (first | with_reducible refine Wr.setCell ?_ (by simp) _ | with_reducible refine Wr.gr ?_ (Gr.ext (Gr.refl _) _) | exact Wr.refl _ _)) (by have := Hdq5.out; intro c hc hcb; simp at hcb; subst hcb; exact this hc))) Huq5.out (by omega) (by show (mIntS (m + 1 + 1 + 1 + 1 + 1) q5).2 ≤ _; omega)).mono ?_
      rintro e y5 ⟨rfl, t5, r5⟩
      have T5 := Lib.hid t5
      have R5 := Lib.hid r5
      clear t5 r5
      have F5 := Lib.hid (Foc.inner (b := b) (lo := off + i * Rd.n GNode) (n := Rd.n GNode) (fq := ([] ++ ([] ++ ([] ++ ([] ++ ([] ++ fq5)))))) (w := wr) (by repeat (first | with_reducible refine Foc.set ?_ (by simp [Rd.n] <;> omega) (by simp [Rd.n] <;> omega) _ | with_reducible refine Foc.gr ?_ bl (Gr.ext (Gr.refl _) _) | exact Foc.refl _ _ _ _ _)) bl R5.out (by intro c hc; simp [hc]) Hdq5.out)
      have Sq5x5 := T5
      have e5 := R5.out.block b (Nat.lt_of_lt_of_le bl (Foc.wr (b := b) (lo := off + i * Rd.n GNode) (n := Rd.n GNode) (fq := ([] ++ ([] ++ ([] ++ ([] ++ ([] ++ fq5)))))) (w := wr) (by repeat (first | with_reducible refine Foc.set ?_ (by simp [Rd.n] <;> omega) (by simp [Rd.n] <;> omega) _ | with_reducible refine Foc.gr ?_ bl (Gr.ext (Gr.refl _) _) | exact Foc.refl _ _ _ _ _))).size) Hdq5.out
      have c5 := fun (o : Nat) => World.cell?_of_block (a := ⟨b, o, none⟩) e5
      have z0x5 : y5.cell? ⟨b, off + i * 6, none⟩ = some (.int .i64 (m)) := (c5 _).trans (by go_simp)
      have z1x5 : y5.cell? ⟨b, off + i * 6 + 1, none⟩ = some (.int .i64 (m + 1)) := (c5 _).trans (by go_simp)
      have z2x5 : y5.cell? ⟨b, off + i * 6 + 2, none⟩ = some (.int .i64 (m + 1 + 1)) := (c5 _).trans (by go_simp)
      have z3x5 : y5.cell? ⟨b, off + i * 6 + 3, none⟩ = some (.int .i64 (m + 1 + 1 + 1)) := (c5 _).trans (by go_simp)
      have z4x5 : y5.cell? ⟨b, off + i * 6 + 4, none⟩ = some (.string (mtx (m + 1 + 1 + 1 + 1))) := (c5 _).trans (by go_simp)
      have z5x5 : y5.cell? ⟨b, off + i * 6 + 5, none⟩ = some (.slice aaq5 q5.length ccq5) := (c5 _).trans (by go_simp)
      have s5 := R5.out.size
      clear e5 c5 z0 z1 z2 z3 z4 z5
      clear fz n0_1 n0_2 n0_3 n0_4 n0_5 n1_0 n1_2 n1_3 n1_4 n1_5 n2_0 n2_1 n2_3 n2_4 n2_5 n3_0 n3_1 n3_2 n3_4 n3_5 n4_0 n4_1 n4_2 n4_3 n4_5 f0 f1 f2 f3 f4
      go_wp2_with fail
      refine ⟨⟨i + 1, (mIntS (m + 1 + 1 + 1 + 1 + 1) q5).2, by omega, Lib.hid ?_, ?_, ?_, by go_num, rfl⟩, by simp [intOf]; omega⟩
      · rw [markK_succ mNode k xs hlt, ← hm.out, ← HY.out]; rfl
      · rw [markT_succ mNode k xs hlt, ← hm.out, ← HY.out]
        refine HP.out _ [.int .i64 (m), .int .i64 (m + 1), .int .i64 (m + 1 + 1), .int .i64 (m + 1 + 1 + 1), .string (mtx (m + 1 + 1 + 1 + 1)), .slice aaq5 q5.length ccq5] (mNode m (q0, q1, q2, q3, q4, q5)).1 (by repeat (first | with_reducible refine Foc.set ?_ (by simp [Rd.n] <;> omega) (by simp [Rd.n] <;> omega) _ | with_reducible refine Foc.gr ?_ bl (Gr.ext (Gr.refl _) _) | exact F5.out)) (fun j v hj => ?_) (rdNode_mk (m) (m + 1) (m + 1 + 1) (m + 1 + 1 + 1) (mtx (m + 1 + 1 + 1 + 1)) ((mIntS (m + 1 + 1 + 1 + 1 + 1) q5).1) Hq0.out Hq1.out Hq2.out Hq3.out Hq4.out (SlR.wr Sq5x5.out (fp := [b]) (by repeat (first | with_reducible refine Wr.setCell ?_ (by simp) _ | with_reducible refine Wr.gr ?_ (Gr.ext (Gr.refl _) _) | exact Wr.refl _ _)) (by have := Hdq5.out; intro c hc hcb; simp at hcb; subst hcb; exact this hc)))
        have en : off + i * Rd.n GNode = off + i * 6 := rfl
        rw [en]
        match j, hj with
        | 0, hj => obtain rfl := Option.some.inj hj; exact z0x5
        | 1, hj => obtain rfl := Option.some.inj hj; exact z1x5
        | 2, hj => obtain rfl := Option.some.inj hj; exact z2x5
        | 3, hj => obtain rfl := Option.some.inj hj; exact z3x5
        | 4, hj => obtain rfl := Option.some.inj hj; exact z4x5
        | 5, hj => obtain rfl := Option.some.inj hj; exact z5x5
      · exact HW.out.trans (Wr.sub (Foc.wr (b := b) (lo := off + i * Rd.n GNode) (n := Rd.n GNode) (fq := ([] ++ ([] ++ ([] ++ ([] ++ ([] ++ fq5)))))) (by repeat (first | with_reducible refine Foc.set ?_ (by simp [Rd.n] <;> omega) (by simp [Rd.n] <;> omega) _ | with_reducible refine Foc.gr ?_ bl (Gr.ext (Gr.refl _) _) | exact F5.out))) (fun c hc => by
          rcases List.mem_cons.1 hc with rfl | hc
          · exact hbm
          · exact Hsub.out c hc))
    · have hk2 : i = xs.length := by omega
      subst hk2
      have hs2 := HS.out
      rw [markT_all] at hs2
      have hm2 := hm.out
      rw [List.take_length] at hm2
      have HS2 := Lib.hid hs2
      have HM2 := Lib.hid hm2
      clear hs2 hm2 HS hm
      go_wp2
      go_ret
      exact ⟨ret_int HM2.out, HS2.out, HW.out⟩

/-- The marks of a value. -/
def vTree (k : Int) : GTree → GTree × Int
  | q0 => ((mNodeS (k) q0).1, (mNodeS (k) q0).2)
theorem vTree_bd (k : Int) (x : GTree) : k ≤ (vTree k x).2 ∧ (vTree k x).2 ≤ k + 16 * (1 + wtTree x) := by
  obtain ⟨q0, rfl⟩ : ∃ yy, yy = x := ⟨_, rfl⟩
  have bq0 := mNodeS_bd (k) q0
  have hw : wtTree q0 = (wtNodeS q0) := rfl
  simp only [vTree] at *
  omega

set_option maxHeartbeats 1000000 in
theorem markTree_any (fp : List Nat) (cs : Array Value) (x : GTree) (k : Int) (w : World) (hx : Rd.rd fp w cs.toList x) (hnd : fp.Nodup) (h0 : 0 < k) (h1 : (vTree k x).2 ≤ 4398046511104) :
    Calls Tryz.prog 18 #[.agg cs, .int .i64 k] w fun e w' => e = .returned (.int .i64 (vTree k x).2) ∧ Rd.rd fp w' cs.toList (vTree k x).1 ∧ Wr fp w w' := by
  have hlt := Rd.lt hx
  obtain ⟨q0, rfl⟩ : ∃ yy, yy = x := ⟨_, rfl⟩
  obtain ⟨vq0, fq0, rfl, hfq, hq0⟩ := rdTree_inv q0 hx
  rw [hfq] at hlt hnd hx ⊢
  clear hfq
  have m1 : (mNodeS (k) q0).2 ≤ 4398046511104 := h1
  have N0 : (fq0).Nodup := by simpa only [List.nil_append, List.append_nil] using hnd
  have L0 : ∀ c ∈ (fq0), c < w.heap.size := by simpa only [List.nil_append, List.append_nil] using hlt
  have uq0 := N0
  have Hlq0 := Lib.hid (fun c (h : c ∈ fq0) => L0 c (by simp [h]))
  have Huq0 := Lib.hid uq0
  have bq0 := mNodeS_mono (k) q0
  have Sq0 := Lib.hid hq0
  obtain ⟨aq0, cq0, rfl, -, -, -⟩ := hq0.open
  clear hx hlt h1 hnd L0  hq0 uq0  N0
  go_enter Tryz.func18, Tryz.ntmps18
  go_wp2_with fail
  refine (markNodeS_any fq0 _ q0 (k) _ (Sq0.out.gr (by repeat (first | exact Gr.refl _ | apply Gr.ext | apply Gr.alloc | apply Gr.drew))) Huq0.out (by omega) (by show (mNodeS (k) q0).2 ≤ _; omega)).mono ?_
  rintro e y0 ⟨rfl, t0, r0⟩
  have T0 := Lib.hid t0
  have R0 := Lib.hid r0
  clear t0 r0
  have W0 := Lib.hid ((Gr.toWr (by exact (by repeat (first | exact Gr.refl _ | apply Gr.ext | apply Gr.alloc | apply Gr.drew)) : Gr w (w.alloc (.cells #[.slice aq0 q0.length cq0] 47))) (fq0)).trans (R0.out.sub (fun c hc => by simp [hc])))
  go_wp2_with fail
  go_ret
  refine ⟨rfl, ?_, W0.out.sub (fun c hc => by simpa using hc)⟩
  have hl := rdTree_mk ((mNodeS (k) q0).1) T0.out
  exact hl

end Go.Proofs.YtbfmeiooeaaibaaGreat

namespace Go.Proofs.YtbfmeiooeaaibaaGreat
open Go.RowKit

/-- The marks of an element. -/
def mInstance (k : Int) : GInstance → GInstance × Int
  | (_, _) => ((k, mtx (k + 1)), k + 1 + 1)
theorem mInstance_bd (k : Int) (x : GInstance) : k ≤ (mInstance k x).2 ∧ (mInstance k x).2 ≤ k + 16 * (1 + wtInstance x) := by
  obtain ⟨q0, q1⟩ := x
  have hw : wtInstance (q0, q1) = (q1.size) := rfl
  simp only [mInstance] at *
  omega
theorem mInstance_mono (k : Int) (x : GInstance) : k ≤ (mInstance k x).2 := (mInstance_bd k x).1
def mInstanceS (k : Int) (x : List GInstance) : List GInstance × Int := markL mInstance k x
theorem mInstanceS_len (k : Int) (x : List GInstance) : (mInstanceS k x).1.length = x.length := markL_len _ _ _
theorem mInstanceS_bd (k : Int) (x : List GInstance) : k ≤ (mInstanceS k x).2 ∧ (mInstanceS k x).2 ≤ k + 16 * wtInstanceS x := by
  have := markL_bd mInstance wtInstance mInstance_bd x k
  unfold mInstanceS wtInstanceS
  exact this
theorem mInstanceS_mono (k : Int) (x : List GInstance) : k ≤ (mInstanceS k x).2 := (mInstanceS_bd k x).1


set_option maxHeartbeats 1000000 in
theorem markInstanceS_any (fp : List Nat) (u : Value) (xs : List GInstance) (k : Int) (w : World) (hu : SlR fp w u xs) (hnd : fp.Nodup) (h0 : 0 < k) (h1 : (mInstanceS k xs).2 ≤ 4398046511104) :
    Calls Tryz.prog 30 #[u, .int .i64 k] w fun e w' => e = .returned (.int .i64 (mInstanceS k xs).2) ∧ SlR fp w' u (mInstanceS k xs).1 ∧ Wr fp w w' := by
  obtain ⟨a, ca, rfl, g1, g2, g3⟩ := hu.open
  have H1 := Lib.hid h1
  clear h1
  go_enter Tryz.func30, Tryz.ntmps30
  go_wp2
  go_loopw [5, 1] (fun s5 s1 wr => ∃ (i : Nat) (m : Int), i ≤ xs.length ∧ Hid (m = (markL mInstance k (xs.take i)).2) ∧ SlR fp wr (.slice a xs.length ca) (markT mInstance k xs i) ∧ Wr fp w wr ∧ s5 = .int .i64 i ∧ s1 = .int .i64 m) (fun s5 _ _ => xs.length - (intOf s5).toNat)
  case atStart => exact ⟨0, k, by omega, Lib.hid (by simp [markL]), by rw [markT_zero]; exact hu, Wr.refl _ _, rfl, rfl⟩
  case round =>
    obtain ⟨i, m, hi, hm, hs, hW, rfl, rfl⟩ := hrel
    have HS := Lib.hid hs
    have HW := Lib.hid hW
    clear hs hW
    by_cases hlt : i < xs.length
    · obtain ⟨b, off, rfl, hb⟩ := g3 i hlt
      have hlt' : i < (markT mInstance k xs i).length := by rw [markT_len]; exact hlt
      obtain ⟨cs, fq, hc, hr, hsub, hbm, hbn, hnq, hz, hput⟩ := HS.out.focus hnd hlt'
      have HP := Lib.hid hput
      rw [markT_at mInstance k xs hlt] at hr
      obtain ⟨y, hy⟩ : ∃ y, y = xs[i] := ⟨_, rfl⟩
      rw [← hy] at hr
      have HY := Lib.hid hy
      have bd := markL_take mInstance mInstance_mono k xs (i + 1)
      have bd2 := markL_take mInstance mInstance_mono k xs i
      rw [markK_succ mInstance k xs hlt, ← hm.out, ← hy] at bd
      rw [← hm.out] at bd2
      obtain ⟨q0, q1⟩ := y
      obtain ⟨hcs, hfq, hq0, hq1⟩ := rdInstance_inv (cs := cs.toArray) q0 q1 (by simpa using hr)
      obtain rfl : cs = [.int .i64 q0, .string q1] := by have := congrArg Array.toList hcs; simpa using this
      rw [hfq] at hsub hbn hnq HP hput hr
      clear hfq
      have z0 : wr.cell? ⟨b, off + i * 2, none⟩ = some (.int .i64 q0) := by simpa [Rd.n] using hc 0 _ rfl
      have z1 : wr.cell? ⟨b, off + i * 2 + 1, none⟩ = some (.string q1) := hc 1 _ rfl
      have f0 : wr.frozen? ⟨b, off + i * 2, none⟩ = false := by simpa [Rd.n] using hz 0 (by decide)
      have f1 : wr.frozen? ⟨b, off + i * 2 + 1, none⟩ = false := hz 1 (by decide)
      have bl := blk z0
      have m0 : 0 < m := by omega
      have em : (mInstance m (q0, q1)).2 = m + 1 + 1 := rfl
      rw [em] at bd
      have m1 : m + 1 + 1 ≤ 4398046511104 := by have h := H1.out; have e : (mInstanceS k xs).2 = (markL mInstance k xs).2 := rfl; omega
      have n0_1 := fun (W : World) (v : Value) => cell_setCell_ne (w := W) (b := b) (o := off + i * 2) (o' := off + i * 2 + 1) (v := v) (by omega)
      have n1_0 := fun (W : World) (v : Value) => cell_setCell_ne (w := W) (b := b) (o := off + i * 2 + 1) (o' := off + i * 2) (v := v) (by omega)
      have fz := fun (W : World) (o o' : Nat) (v : Value) => (frozen_setCell' : (W.setCell ⟨b, o, none⟩ v).frozen? ⟨b, o', none⟩ = W.frozen? ⟨b, o', none⟩)
      have Hq0 := Lib.hid (wf_mark (y := m) (by omega) (by omega))
      have Hq1 := Lib.hid (mtx_size (m + 1) (by omega))
      clear hc hz hput bd2 g3 em hy hr hcs hq0 hq1
      have Hbn := Lib.hid hbn
      have Hnq := Lib.hid hnq
      have Hsub := Lib.hid hsub
      clear hbn hnq hsub
      go_wp2_with fail
      refine (markText_any (m + 1) _ (by omega) (by omega)).mono ?_
      rintro e w1 ⟨rfl, x1, rfl⟩
      go_wp2_with fail
      refine ⟨⟨i + 1, m + 1 + 1, by omega, Lib.hid ?_, ?_, ?_, by go_num, rfl⟩, by simp [intOf]; omega⟩
      · rw [markK_succ mInstance k xs hlt, ← hm.out, ← HY.out]; rfl
      · rw [markT_succ mInstance k xs hlt, ← hm.out, ← HY.out]
        refine HP.out _ [.int .i64 (m), .string (mtx (m + 1))] (mInstance m (q0, q1)).1 (by repeat (first | with_reducible refine Foc.set ?_ (by simp [Rd.n] <;> omega) (by simp [Rd.n] <;> omega) _ | with_reducible refine Foc.gr ?_ bl (Gr.ext (Gr.refl _) _) | exact Foc.refl _ _ _ _ _)) (fun j v hj => ?_) (rdInstance_mk (m) (mtx (m + 1)) Hq0.out Hq1.out)
        have en : off + i * Rd.n GInstance = off + i * 2 := rfl
        rw [en]
        match j, hj with
        | 0, hj => obtain rfl := Option.some.inj hj; go_simp
        | 1, hj => obtain rfl := Option.some.inj hj; go_simp
      · repeat (first | with_reducible refine Wr.setCell ?_ hbm _ | with_reducible refine Wr.gr ?_ (Gr.ext (Gr.refl _) _) | exact HW.out)
    · have hk2 : i = xs.length := by omega
      subst hk2
      have hs2 := HS.out
      rw [markT_all] at hs2
      have hm2 := hm.out
      rw [List.take_length] at hm2
      have HS2 := Lib.hid hs2
      have HM2 := Lib.hid hm2
      clear hs2 hm2 HS hm
      go_wp2
      go_ret
      exact ⟨ret_int HM2.out, HS2.out, HW.out⟩

set_option maxHeartbeats 1000000 in
theorem heldInstanceS_any (fp : List Nat) (u : Value) (xs : List GInstance) (k : Int) (w : World) (hu : SlR fp w u (mInstanceS k xs).1) (h0 : 0 < k) (h1 : (mInstanceS k xs).2 ≤ 4398046511104) :
    Calls Tryz.prog 31 #[u, .int .i64 k] w fun e w' => e = .returned (.int .i64 (mInstanceS k xs).2) ∧ Gr w w' := by
  obtain ⟨a, ca, rfl, g1, g2, g3⟩ := hu.open
  have H1 := Lib.hid h1
  clear h1
  have hml : (mInstanceS k xs).1.length = xs.length := markL_len mInstance xs k
  rw [hml] at g1 g2 g3 hu ⊢
  clear hml
  go_enter Tryz.func31, Tryz.ntmps31
  go_wp2
  go_loopw [5, 1] (fun s5 s1 wr => ∃ (i : Nat) (m : Int), i ≤ xs.length ∧ Hid (m = (markL mInstance k (xs.take i)).2) ∧ Gr w wr ∧ s5 = .int .i64 i ∧ s1 = .int .i64 m) (fun s5 _ _ => xs.length - (intOf s5).toNat)
  case atStart => exact ⟨0, k, by omega, Lib.hid (by simp [markL]), Gr.refl _, rfl, rfl⟩
  case round =>
    obtain ⟨i, m, hi, hm, ⟨x, rfl⟩, rfl, rfl⟩ := hrel
    by_cases hlt : i < xs.length
    · have hlt' : i < (markL mInstance k xs).1.length := by rw [markL_len]; exact hlt
      obtain ⟨b, off, rfl, hb⟩ := g3 i hlt
      obtain ⟨cs, fq, hc, hr, -⟩ := SlR.at (xs := (markL mInstance k xs).1) hu hlt'
      rw [markL_at mInstance k xs hlt, ← hm.out] at hr
      obtain ⟨y, hy⟩ : ∃ y, y = xs[i] := ⟨_, rfl⟩
      rw [← hy] at hr
      have HY := Lib.hid hy
      have bd := markL_take mInstance mInstance_mono k xs (i + 1)
      have bd2 := markL_take mInstance mInstance_mono k xs i
      rw [markK_succ mInstance k xs hlt, ← hm.out, ← hy] at bd
      rw [← hm.out] at bd2
      obtain ⟨q0, q1⟩ := y
      obtain ⟨hcs, -, -, -⟩ := rdInstance_inv (cs := cs.toArray) (m) (mtx (m + 1)) (by rw [List.toList_toArray]; exact hr)
      obtain rfl : cs = [.int .i64 (m), .string (mtx (m + 1))] := by have := congrArg Array.toList hcs; simpa using this
      have z0 : w.cell? ⟨b, off + i * 2, none⟩ = some (.int .i64 (m)) := by simpa [Rd.n] using hc 0 _ rfl
      have z1 : w.cell? ⟨b, off + i * 2 + 1, none⟩ = some (.string (mtx (m + 1))) := hc 1 _ rfl
      have m0 : 0 < m := by omega
      have em : (mInstance m (q0, q1)).2 = m + 1 + 1 := rfl
      rw [em] at bd
      have m1 : m + 1 + 1 ≤ 4398046511104 := by have h := H1.out; have e : (mInstanceS k xs).2 = (markL mInstance k xs).2 := rfl; omega
      clear hc bd bd2 g3 em hy hr hcs
      go_wp2_with fail
      refine wp_region_grown (by kernel_rfl) (by kernel_rfl) ?_
      repeat (go_big_quiet_step ((go_at_call 78; exact grown_call (markText_any (m + 1) _ (by omega) (by omega)))))
      refine wpQuiet_nil ?_
      intro _ hw'
      obtain ⟨nx1, hw''⟩ := hw'
      subst hw''
      go_wp2_with fail
      refine ⟨⟨i + 1, m + 1 + 1, by omega, Lib.hid ?_, (by repeat (first | exact Gr.refl _ | apply Gr.ext | apply Gr.alloc | apply Gr.drew)), by go_num, rfl⟩, by simp [intOf]; omega⟩
      rw [markK_succ mInstance k xs hlt, ← hm.out, ← HY.out]; rfl
    · have hk2 : i = xs.length := by omega
      subst hk2
      have hm2 := hm.out
      rw [List.take_length] at hm2
      have HM2 := Lib.hid hm2
      clear hm2 hm
      go_wp2
      go_ret
      exact ⟨ret_int HM2.out, (by repeat (first | exact Gr.refl _ | apply Gr.ext | apply Gr.alloc | apply Gr.drew))⟩

/-- The marks of an element. -/
def mReading (k : Int) : GReading → GReading × Int
  | ((_, _), _, _) => (((k, mtx (k + 1)), k + 1 + 1, mtx (k + 1 + 1 + 1)), k + 1 + 1 + 1 + 1)
theorem mReading_bd (k : Int) (x : GReading) : k ≤ (mReading k x).2 ∧ (mReading k x).2 ≤ k + 16 * (1 + wtReading x) := by
  obtain ⟨⟨q00, q01⟩, q1, q2⟩ := x
  have hw : wtReading ((q00, q01), q1, q2) = (wtInstance (q00, q01)) + (q2.size) := rfl
  simp only [mReading] at *
  omega
theorem mReading_mono (k : Int) (x : GReading) : k ≤ (mReading k x).2 := (mReading_bd k x).1
def mReadingS (k : Int) (x : List GReading) : List GReading × Int := markL mReading k x
theorem mReadingS_len (k : Int) (x : List GReading) : (mReadingS k x).1.length = x.length := markL_len _ _ _
theorem mReadingS_bd (k : Int) (x : List GReading) : k ≤ (mReadingS k x).2 ∧ (mReadingS k x).2 ≤ k + 16 * wtReadingS x := by
  have := markL_bd mReading wtReading mReading_bd x k
  unfold mReadingS wtReadingS
  exact this
theorem mReadingS_mono (k : Int) (x : List GReading) : k ≤ (mReadingS k x).2 := (mReadingS_bd k x).1


set_option maxHeartbeats 1000000 in
theorem markReadingS_any (fp : List Nat) (u : Value) (xs : List GReading) (k : Int) (w : World) (hu : SlR fp w u xs) (hnd : fp.Nodup) (h0 : 0 < k) (h1 : (mReadingS k xs).2 ≤ 4398046511104) :
    Calls Tryz.prog 57 #[u, .int .i64 k] w fun e w' => e = .returned (.int .i64 (mReadingS k xs).2) ∧ SlR fp w' u (mReadingS k xs).1 ∧ Wr fp w w' := by
  obtain ⟨a, ca, rfl, g1, g2, g3⟩ := hu.open
  have H1 := Lib.hid h1
  clear h1
  go_enter Tryz.func57, Tryz.ntmps57
  go_wp2
  go_loopw [5, 1] (fun s5 s1 wr => ∃ (i : Nat) (m : Int), i ≤ xs.length ∧ Hid (m = (markL mReading k (xs.take i)).2) ∧ SlR fp wr (.slice a xs.length ca) (markT mReading k xs i) ∧ Wr fp w wr ∧ s5 = .int .i64 i ∧ s1 = .int .i64 m) (fun s5 _ _ => xs.length - (intOf s5).toNat)
  case atStart => exact ⟨0, k, by omega, Lib.hid (by simp [markL]), by rw [markT_zero]; exact hu, Wr.refl _ _, rfl, rfl⟩
  case round =>
    obtain ⟨i, m, hi, hm, hs, hW, rfl, rfl⟩ := hrel
    have HS := Lib.hid hs
    have HW := Lib.hid hW
    clear hs hW
    by_cases hlt : i < xs.length
    · obtain ⟨b, off, rfl, hb⟩ := g3 i hlt
      have hlt' : i < (markT mReading k xs i).length := by rw [markT_len]; exact hlt
      obtain ⟨cs, fq, hc, hr, hsub, hbm, hbn, hnq, hz, hput⟩ := HS.out.focus hnd hlt'
      have HP := Lib.hid hput
      rw [markT_at mReading k xs hlt] at hr
      obtain ⟨y, hy⟩ : ∃ y, y = xs[i] := ⟨_, rfl⟩
      rw [← hy] at hr
      have HY := Lib.hid hy
      have bd := markL_take mReading mReading_mono k xs (i + 1)
      have bd2 := markL_take mReading mReading_mono k xs i
      rw [markK_succ mReading k xs hlt, ← hm.out, ← hy] at bd
      rw [← hm.out] at bd2
      obtain ⟨⟨q00, q01⟩, q1, q2⟩ := y
      obtain ⟨hcs, hfq, hq00, hq01, hq1, hq2⟩ := rdReading_inv (cs := cs.toArray) q00 q01 q1 q2 (by simpa using hr)
      obtain rfl : cs = [.int .i64 q00, .string q01, .int .i64 q1, .string q2] := by have := congrArg Array.toList hcs; simpa using this
      rw [hfq] at hsub hbn hnq HP hput hr
      clear hfq
      have z0 : wr.cell? ⟨b, off + i * 4, none⟩ = some (.int .i64 q00) := by simpa [Rd.n] using hc 0 _ rfl
      have z1 : wr.cell? ⟨b, off + i * 4 + 1, none⟩ = some (.string q01) := hc 1 _ rfl
      have z2 : wr.cell? ⟨b, off + i * 4 + 2, none⟩ = some (.int .i64 q1) := hc 2 _ rfl
      have z3 : wr.cell? ⟨b, off + i * 4 + 3, none⟩ = some (.string q2) := hc 3 _ rfl
      have f0 : wr.frozen? ⟨b, off + i * 4, none⟩ = false := by simpa [Rd.n] using hz 0 (by decide)
      have f1 : wr.frozen? ⟨b, off + i * 4 + 1, none⟩ = false := hz 1 (by decide)
      have f2 : wr.frozen? ⟨b, off + i * 4 + 2, none⟩ = false := hz 2 (by decide)
      have f3 : wr.frozen? ⟨b, off + i * 4 + 3, none⟩ = false := hz 3 (by decide)
      have bl := blk z0
      have m0 : 0 < m := by omega
      have em : (mReading m ((q00, q01), q1, q2)).2 = m + 1 + 1 + 1 + 1 := rfl
      rw [em] at bd
      have m1 : m + 1 + 1 + 1 + 1 ≤ 4398046511104 := by have h := H1.out; have e : (mReadingS k xs).2 = (markL mReading k xs).2 := rfl; omega
      have n0_1 := fun (W : World) (v : Value) => cell_setCell_ne (w := W) (b := b) (o := off + i * 4) (o' := off + i * 4 + 1) (v := v) (by omega)
      have n0_2 := fun (W : World) (v : Value) => cell_setCell_ne (w := W) (b := b) (o := off + i * 4) (o' := off + i * 4 + 2) (v := v) (by omega)
      have n0_3 := fun (W : World) (v : Value) => cell_setCell_ne (w := W) (b := b) (o := off + i * 4) (o' := off + i * 4 + 3) (v := v) (by omega)
      have n1_0 := fun (W : World) (v : Value) => cell_setCell_ne (w := W) (b := b) (o := off + i * 4 + 1) (o' := off + i * 4) (v := v) (by omega)
      have n1_2 := fun (W : World) (v : Value) => cell_setCell_ne (w := W) (b := b) (o := off + i * 4 + 1) (o' := off + i * 4 + 2) (v := v) (by omega)
      have n1_3 := fun (W : World) (v : Value) => cell_setCell_ne (w := W) (b := b) (o := off + i * 4 + 1) (o' := off + i * 4 + 3) (v := v) (by omega)
      have n2_0 := fun (W : World) (v : Value) => cell_setCell_ne (w := W) (b := b) (o := off + i * 4 + 2) (o' := off + i * 4) (v := v) (by omega)
      have n2_1 := fun (W : World) (v : Value) => cell_setCell_ne (w := W) (b := b) (o := off + i * 4 + 2) (o' := off + i * 4 + 1) (v := v) (by omega)
      have n2_3 := fun (W : World) (v : Value) => cell_setCell_ne (w := W) (b := b) (o := off + i * 4 + 2) (o' := off + i * 4 + 3) (v := v) (by omega)
      have n3_0 := fun (W : World) (v : Value) => cell_setCell_ne (w := W) (b := b) (o := off + i * 4 + 3) (o' := off + i * 4) (v := v) (by omega)
      have n3_1 := fun (W : World) (v : Value) => cell_setCell_ne (w := W) (b := b) (o := off + i * 4 + 3) (o' := off + i * 4 + 1) (v := v) (by omega)
      have n3_2 := fun (W : World) (v : Value) => cell_setCell_ne (w := W) (b := b) (o := off + i * 4 + 3) (o' := off + i * 4 + 2) (v := v) (by omega)
      have fz := fun (W : World) (o o' : Nat) (v : Value) => (frozen_setCell' : (W.setCell ⟨b, o, none⟩ v).frozen? ⟨b, o', none⟩ = W.frozen? ⟨b, o', none⟩)
      have Hq00 := Lib.hid (wf_mark (y := m) (by omega) (by omega))
      have Hq01 := Lib.hid (mtx_size (m + 1) (by omega))
      have Hq1 := Lib.hid (wf_mark (y := m + 1 + 1) (by omega) (by omega))
      have Hq2 := Lib.hid (mtx_size (m + 1 + 1 + 1) (by omega))
      clear hc hz hput bd2 g3 em hy hr hcs hq00 hq01 hq1 hq2
      have Hbn := Lib.hid hbn
      have Hnq := Lib.hid hnq
      have Hsub := Lib.hid hsub
      clear hbn hnq hsub
      go_wp2_with fail
      refine (markText_any (m + 1) _ (by omega) (by omega)).mono ?_
      rintro e w1 ⟨rfl, x1, rfl⟩
      go_wp2_with fail
      refine (markText_any (m + 1 + 1 + 1) _ (by omega) (by omega)).mono ?_
      rintro e w3 ⟨rfl, x3, rfl⟩
      go_wp2_with fail
      refine ⟨⟨i + 1, m + 1 + 1 + 1 + 1, by omega, Lib.hid ?_, ?_, ?_, by go_num, rfl⟩, by simp [intOf]; omega⟩
      · rw [markK_succ mReading k xs hlt, ← hm.out, ← HY.out]; rfl
      · rw [markT_succ mReading k xs hlt, ← hm.out, ← HY.out]
        refine HP.out _ [.int .i64 (m), .string (mtx (m + 1)), .int .i64 (m + 1 + 1), .string (mtx (m + 1 + 1 + 1))] (mReading m ((q00, q01), q1, q2)).1 (by repeat (first | with_reducible refine Foc.set ?_ (by simp [Rd.n] <;> omega) (by simp [Rd.n] <;> omega) _ | with_reducible refine Foc.gr ?_ bl (Gr.ext (Gr.refl _) _) | exact Foc.refl _ _ _ _ _)) (fun j v hj => ?_) (rdReading_mk (m) (mtx (m + 1)) (m + 1 + 1) (mtx (m + 1 + 1 + 1)) Hq00.out Hq01.out Hq1.out Hq2.out)
        have en : off + i * Rd.n GReading = off + i * 4 := rfl
        rw [en]
        match j, hj with
        | 0, hj => obtain rfl := Option.some.inj hj; go_simp
        | 1, hj => obtain rfl := Option.some.inj hj; go_simp
        | 2, hj => obtain rfl := Option.some.inj hj; go_simp
        | 3, hj => obtain rfl := Option.some.inj hj; go_simp
      · repeat (first | with_reducible refine Wr.setCell ?_ hbm _ | with_reducible refine Wr.gr ?_ (Gr.ext (Gr.refl _) _) | exact HW.out)
    · have hk2 : i = xs.length := by omega
      subst hk2
      have hs2 := HS.out
      rw [markT_all] at hs2
      have hm2 := hm.out
      rw [List.take_length] at hm2
      have HS2 := Lib.hid hs2
      have HM2 := Lib.hid hm2
      clear hs2 hm2 HS hm
      go_wp2
      go_ret
      exact ⟨ret_int HM2.out, HS2.out, HW.out⟩

set_option maxHeartbeats 1000000 in
theorem heldReadingS_any (fp : List Nat) (u : Value) (xs : List GReading) (k : Int) (w : World) (hu : SlR fp w u (mReadingS k xs).1) (h0 : 0 < k) (h1 : (mReadingS k xs).2 ≤ 4398046511104) :
    Calls Tryz.prog 59 #[u, .int .i64 k] w fun e w' => e = .returned (.int .i64 (mReadingS k xs).2) ∧ Gr w w' := by
  obtain ⟨a, ca, rfl, g1, g2, g3⟩ := hu.open
  have H1 := Lib.hid h1
  clear h1
  have hml : (mReadingS k xs).1.length = xs.length := markL_len mReading xs k
  rw [hml] at g1 g2 g3 hu ⊢
  clear hml
  go_enter Tryz.func59, Tryz.ntmps59
  go_wp2
  go_loopw [5, 1] (fun s5 s1 wr => ∃ (i : Nat) (m : Int), i ≤ xs.length ∧ Hid (m = (markL mReading k (xs.take i)).2) ∧ Gr w wr ∧ s5 = .int .i64 i ∧ s1 = .int .i64 m) (fun s5 _ _ => xs.length - (intOf s5).toNat)
  case atStart => exact ⟨0, k, by omega, Lib.hid (by simp [markL]), Gr.refl _, rfl, rfl⟩
  case round =>
    obtain ⟨i, m, hi, hm, ⟨x, rfl⟩, rfl, rfl⟩ := hrel
    by_cases hlt : i < xs.length
    · have hlt' : i < (markL mReading k xs).1.length := by rw [markL_len]; exact hlt
      obtain ⟨b, off, rfl, hb⟩ := g3 i hlt
      obtain ⟨cs, fq, hc, hr, -⟩ := SlR.at (xs := (markL mReading k xs).1) hu hlt'
      rw [markL_at mReading k xs hlt, ← hm.out] at hr
      obtain ⟨y, hy⟩ : ∃ y, y = xs[i] := ⟨_, rfl⟩
      rw [← hy] at hr
      have HY := Lib.hid hy
      have bd := markL_take mReading mReading_mono k xs (i + 1)
      have bd2 := markL_take mReading mReading_mono k xs i
      rw [markK_succ mReading k xs hlt, ← hm.out, ← hy] at bd
      rw [← hm.out] at bd2
      obtain ⟨⟨q00, q01⟩, q1, q2⟩ := y
      obtain ⟨hcs, -, -, -, -, -⟩ := rdReading_inv (cs := cs.toArray) (m) (mtx (m + 1)) (m + 1 + 1) (mtx (m + 1 + 1 + 1)) (by rw [List.toList_toArray]; exact hr)
      obtain rfl : cs = [.int .i64 (m), .string (mtx (m + 1)), .int .i64 (m + 1 + 1), .string (mtx (m + 1 + 1 + 1))] := by have := congrArg Array.toList hcs; simpa using this
      have z0 : w.cell? ⟨b, off + i * 4, none⟩ = some (.int .i64 (m)) := by simpa [Rd.n] using hc 0 _ rfl
      have z1 : w.cell? ⟨b, off + i * 4 + 1, none⟩ = some (.string (mtx (m + 1))) := hc 1 _ rfl
      have z2 : w.cell? ⟨b, off + i * 4 + 2, none⟩ = some (.int .i64 (m + 1 + 1)) := hc 2 _ rfl
      have z3 : w.cell? ⟨b, off + i * 4 + 3, none⟩ = some (.string (mtx (m + 1 + 1 + 1))) := hc 3 _ rfl
      have m0 : 0 < m := by omega
      have em : (mReading m ((q00, q01), q1, q2)).2 = m + 1 + 1 + 1 + 1 := rfl
      rw [em] at bd
      have m1 : m + 1 + 1 + 1 + 1 ≤ 4398046511104 := by have h := H1.out; have e : (mReadingS k xs).2 = (markL mReading k xs).2 := rfl; omega
      clear hc bd bd2 g3 em hy hr hcs
      go_wp2_with fail
      refine wp_region_grown (by kernel_rfl) (by kernel_rfl) ?_
      repeat (go_big_quiet_step ((go_at_call 78; exact grown_call (markText_any (m + 1) _ (by omega) (by omega)))))
      refine wpQuiet_nil ?_
      intro _ hw'
      obtain ⟨nx1, hw''⟩ := hw'
      subst hw''
      go_wp2_with fail
      refine wp_region_grown (by kernel_rfl) (by kernel_rfl) ?_
      repeat (go_big_quiet_step ((go_at_call 78; exact grown_call (markText_any (m + 1 + 1 + 1) _ (by omega) (by omega)))))
      refine wpQuiet_nil ?_
      intro _ hw'
      obtain ⟨nx3, hw''⟩ := hw'
      subst hw''
      go_wp2_with fail
      refine ⟨⟨i + 1, m + 1 + 1 + 1 + 1, by omega, Lib.hid ?_, (by repeat (first | exact Gr.refl _ | apply Gr.ext | apply Gr.alloc | apply Gr.drew)), by go_num, rfl⟩, by simp [intOf]; omega⟩
      rw [markK_succ mReading k xs hlt, ← hm.out, ← HY.out]; rfl
    · have hk2 : i = xs.length := by omega
      subst hk2
      have hm2 := hm.out
      rw [List.take_length] at hm2
      have HM2 := Lib.hid hm2
      clear hm2 hm
      go_wp2
      go_ret
      exact ⟨ret_int HM2.out, (by repeat (first | exact Gr.refl _ | apply Gr.ext | apply Gr.alloc | apply Gr.drew))⟩

end Go.Proofs.YtbfmeiooeaaibaaGreat

namespace Go.Proofs.YtbfmeiooeaaibaaGreat
open Go.RowKit

/-- The marks of an element. -/
def mEntry (k : Int) : GEntry → GEntry × Int
  | ((_, _), _, _, _, _, q5, q6, q7) => (((k, mtx (k + 1)), k + 1 + 1, k + 1 + 1 + 1, k + 1 + 1 + 1 + 1, mtx (k + 1 + 1 + 1 + 1 + 1), (mIntS (k + 1 + 1 + 1 + 1 + 1 + 1) q5).1, (mIntS ((mIntS (k + 1 + 1 + 1 + 1 + 1 + 1) q5).2) q6).1, (mReadingS ((mIntS ((mIntS (k + 1 + 1 + 1 + 1 + 1 + 1) q5).2) q6).2) q7).1), (mReadingS ((mIntS ((mIntS (k + 1 + 1 + 1 + 1 + 1 + 1) q5).2) q6).2) q7).2)
theorem mEntry_bd (k : Int) (x : GEntry) : k ≤ (mEntry k x).2 ∧ (mEntry k x).2 ≤ k + 16 * (1 + wtEntry x) := by
  obtain ⟨⟨q00, q01⟩, q1, q2, q3, q4, q5, q6, q7⟩ := x
  have bq5 := mIntS_bd (k + 1 + 1 + 1 + 1 + 1 + 1) q5
  have bq6 := mIntS_bd ((mIntS (k + 1 + 1 + 1 + 1 + 1 + 1) q5).2) q6
  have bq7 := mReadingS_bd ((mIntS ((mIntS (k + 1 + 1 + 1 + 1 + 1 + 1) q5).2) q6).2) q7
  have hw : wtEntry ((q00, q01), q1, q2, q3, q4, q5, q6, q7) = (wtInstance (q00, q01)) + (q4.size) + (q5.length) + (q6.length) + (wtReadingS q7) := rfl
  simp only [mEntry] at *
  omega
theorem mEntry_mono (k : Int) (x : GEntry) : k ≤ (mEntry k x).2 := (mEntry_bd k x).1
def mEntryS (k : Int) (x : List GEntry) : List GEntry × Int := markL mEntry k x
theorem mEntryS_len (k : Int) (x : List GEntry) : (mEntryS k x).1.length = x.length := markL_len _ _ _
theorem mEntryS_bd (k : Int) (x : List GEntry) : k ≤ (mEntryS k x).2 ∧ (mEntryS k x).2 ≤ k + 16 * wtEntryS x := by
  have := markL_bd mEntry wtEntry mEntry_bd x k
  unfold mEntryS wtEntryS
  exact this
theorem mEntryS_mono (k : Int) (x : List GEntry) : k ≤ (mEntryS k x).2 := (mEntryS_bd k x).1

set_option maxHeartbeats 4000000 in
theorem markEntryS_any (fp : List Nat) (u : Value) (xs : List GEntry) (k : Int) (w : World) (hu : SlR fp w u xs) (hnd : fp.Nodup) (h0 : 0 < k) (h1 : (mEntryS k xs).2 ≤ 4398046511104) :
    Calls Tryz.prog 77 #[u, .int .i64 k] w fun e w' => e = .returned (.int .i64 (mEntryS k xs).2) ∧ SlR fp w' u (mEntryS k xs).1 ∧ Wr fp w w' := by
  obtain ⟨a, ca, rfl, g1, g2, g3⟩ := hu.open
  have H1 := Lib.hid h1
  clear h1
  go_enter Tryz.func77, Tryz.ntmps77
  go_wp2
  go_loopw [5, 1] (fun s5 s1 wr => ∃ (i : Nat) (m : Int), i ≤ xs.length ∧ Hid (m = (markL mEntry k (xs.take i)).2) ∧ SlR fp wr (.slice a xs.length ca) (markT mEntry k xs i) ∧ Wr fp w wr ∧ s5 = .int .i64 i ∧ s1 = .int .i64 m) (fun s5 _ _ => xs.length - (intOf s5).toNat)
  case atStart => exact ⟨0, k, by omega, Lib.hid (by simp [markL]), by rw [markT_zero]; exact hu, Wr.refl _ _, rfl, rfl⟩
  case round =>
    obtain ⟨i, m, hi, hm, hs, hW, rfl, rfl⟩ := hrel
    have HS := Lib.hid hs
    have HW := Lib.hid hW
    clear hs hW
    by_cases hlt : i < xs.length
    · obtain ⟨b, off, rfl, hb⟩ := g3 i hlt
      have hlt' : i < (markT mEntry k xs i).length := by rw [markT_len]; exact hlt
      obtain ⟨cs, fq, hc, hr, hsub, hbm, hbn, hnq, hz, hput⟩ := HS.out.focus hnd hlt'
      have HP := Lib.hid hput
      rw [markT_at mEntry k xs hlt] at hr
      obtain ⟨y, hy⟩ : ∃ y, y = xs[i] := ⟨_, rfl⟩
      rw [← hy] at hr
      have HY := Lib.hid hy
      have bd := markL_take mEntry mEntry_mono k xs (i + 1)
      have bd2 := markL_take mEntry mEntry_mono k xs i
      rw [markK_succ mEntry k xs hlt, ← hm.out, ← hy] at bd
      rw [← hm.out] at bd2
      obtain ⟨⟨q00, q01⟩, q1, q2, q3, q4, q5, q6, q7⟩ := y
      obtain ⟨vq5, fq5, vq6, fq6, vq7, fq7, hcs, hfq, hq00, hq01, hq1, hq2, hq3, hq4, hq5, hq6, hq7⟩ := rdEntry_inv (cs := cs.toArray) q00 q01 q1 q2 q3 q4 q5 q6 q7 (by simpa using hr)
      obtain rfl : cs = [.int .i64 q00, .string q01, .int .i64 q1, .int .i64 q2, .int .i64 q3, .string q4, vq5, vq6, vq7] := by have := congrArg Array.toList hcs; simpa using this
      obtain rfl : fq = (([] ++ []) ++ ([] ++ ([] ++ ([] ++ ([] ++ (fq5 ++ (fq6 ++ fq7))))))) := hfq
      have z0 : wr.cell? ⟨b, off + i * 9, none⟩ = some (.int .i64 q00) := by simpa [Rd.n] using hc 0 _ rfl
      have z1 : wr.cell? ⟨b, off + i * 9 + 1, none⟩ = some (.string q01) := hc 1 _ rfl
      have z2 : wr.cell? ⟨b, off + i * 9 + 2, none⟩ = some (.int .i64 q1) := hc 2 _ rfl
      have z3 : wr.cell? ⟨b, off + i * 9 + 3, none⟩ = some (.int .i64 q2) := hc 3 _ rfl
      have z4 : wr.cell? ⟨b, off + i * 9 + 4, none⟩ = some (.int .i64 q3) := hc 4 _ rfl
      have z5 : wr.cell? ⟨b, off + i * 9 + 5, none⟩ = some (.string q4) := hc 5 _ rfl
      have z6 : wr.cell? ⟨b, off + i * 9 + 6, none⟩ = some (vq5) := hc 6 _ rfl
      have z7 : wr.cell? ⟨b, off + i * 9 + 7, none⟩ = some (vq6) := hc 7 _ rfl
      have z8 : wr.cell? ⟨b, off + i * 9 + 8, none⟩ = some (vq7) := hc 8 _ rfl
      have f0 : wr.frozen? ⟨b, off + i * 9, none⟩ = false := by simpa [Rd.n] using hz 0 (by decide)
      have f1 : wr.frozen? ⟨b, off + i * 9 + 1, none⟩ = false := hz 1 (by decide)
      have f2 : wr.frozen? ⟨b, off + i * 9 + 2, none⟩ = false := hz 2 (by decide)
      have f3 : wr.frozen? ⟨b, off + i * 9 + 3, none⟩ = false := hz 3 (by decide)
      have f4 : wr.frozen? ⟨b, off + i * 9 + 4, none⟩ = false := hz 4 (by decide)
      have f5 : wr.frozen? ⟨b, off + i * 9 + 5, none⟩ = false := hz 5 (by decide)
      have bl := blk z0
      have m0 : 0 < m := by omega
      have em : (mEntry m ((q00, q01), q1, q2, q3, q4, q5, q6, q7)).2 = (mReadingS ((mIntS ((mIntS (m + 1 + 1 + 1 + 1 + 1 + 1) q5).2) q6).2) q7).2 := rfl
      rw [em] at bd
      have bq5 := mIntS_mono (m + 1 + 1 + 1 + 1 + 1 + 1) q5
      have bq6 := mIntS_mono ((mIntS (m + 1 + 1 + 1 + 1 + 1 + 1) q5).2) q6
      have bq7 := mReadingS_mono ((mIntS ((mIntS (m + 1 + 1 + 1 + 1 + 1 + 1) q5).2) q6).2) q7
      have m1 : (mReadingS ((mIntS ((mIntS (m + 1 + 1 + 1 + 1 + 1 + 1) q5).2) q6).2) q7).2 ≤ 4398046511104 := by have h := H1.out; have e : (mEntryS k xs).2 = (markL mEntry k xs).2 := rfl; omega
      have n0_1 := fun (W : World) (v : Value) => cell_setCell_ne (w := W) (b := b) (o := off + i * 9) (o' := off + i * 9 + 1) (v := v) (by omega)
      have n0_2 := fun (W : World) (v : Value) => cell_setCell_ne (w := W) (b := b) (o := off + i * 9) (o' := off + i * 9 + 2) (v := v) (by omega)
      have n0_3 := fun (W : World) (v : Value) => cell_setCell_ne (w := W) (b := b) (o := off + i * 9) (o' := off + i * 9 + 3) (v := v) (by omega)
      have n0_4 := fun (W : World) (v : Value) => cell_setCell_ne (w := W) (b := b) (o := off + i * 9) (o' := off + i * 9 + 4) (v := v) (by omega)
      have n0_5 := fun (W : World) (v : Value) => cell_setCell_ne (w := W) (b := b) (o := off + i * 9) (o' := off + i * 9 + 5) (v := v) (by omega)
      have n0_6 := fun (W : World) (v : Value) => cell_setCell_ne (w := W) (b := b) (o := off + i * 9) (o' := off + i * 9 + 6) (v := v) (by omega)
      have n0_7 := fun (W : World) (v : Value) => cell_setCell_ne (w := W) (b := b) (o := off + i * 9) (o' := off + i * 9 + 7) (v := v) (by omega)
      have n0_8 := fun (W : World) (v : Value) => cell_setCell_ne (w := W) (b := b) (o := off + i * 9) (o' := off + i * 9 + 8) (v := v) (by omega)
      have n1_0 := fun (W : World) (v : Value) => cell_setCell_ne (w := W) (b := b) (o := off + i * 9 + 1) (o' := off + i * 9) (v := v) (by omega)
      have n1_2 := fun (W : World) (v : Value) => cell_setCell_ne (w := W) (b := b) (o := off + i * 9 + 1) (o' := off + i * 9 + 2) (v := v) (by omega)
      have n1_3 := fun (W : World) (v : Value) => cell_setCell_ne (w := W) (b := b) (o := off + i * 9 + 1) (o' := off + i * 9 + 3) (v := v) (by omega)
      have n1_4 := fun (W : World) (v : Value) => cell_setCell_ne (w := W) (b := b) (o := off + i * 9 + 1) (o' := off + i * 9 + 4) (v := v) (by omega)
      have n1_5 := fun (W : World) (v : Value) => cell_setCell_ne (w := W) (b := b) (o := off + i * 9 + 1) (o' := off + i * 9 + 5) (v := v) (by omega)
      have n1_6 := fun (W : World) (v : Value) => cell_setCell_ne (w := W) (b := b) (o := off + i * 9 + 1) (o' := off + i * 9 + 6) (v := v) (by omega)
      have n1_7 := fun (W : World) (v : Value) => cell_setCell_ne (w := W) (b := b) (o := off + i * 9 + 1) (o' := off + i * 9 + 7) (v := v) (by omega)
      have n1_8 := fun (W : World) (v : Value) => cell_setCell_ne (w := W) (b := b) (o := off + i * 9 + 1) (o' := off + i * 9 + 8) (v := v) (by omega)
      have n2_0 := fun (W : World) (v : Value) => cell_setCell_ne (w := W) (b := b) (o := off + i * 9 + 2) (o' := off + i * 9) (v := v) (by omega)
      have n2_1 := fun (W : World) (v : Value) => cell_setCell_ne (w := W) (b := b) (o := off + i * 9 + 2) (o' := off + i * 9 + 1) (v := v) (by omega)
      have n2_3 := fun (W : World) (v : Value) => cell_setCell_ne (w := W) (b := b) (o := off + i * 9 + 2) (o' := off + i * 9 + 3) (v := v) (by omega)
      have n2_4 := fun (W : World) (v : Value) => cell_setCell_ne (w := W) (b := b) (o := off + i * 9 + 2) (o' := off + i * 9 + 4) (v := v) (by omega)
      have n2_5 := fun (W : World) (v : Value) => cell_setCell_ne (w := W) (b := b) (o := off + i * 9 + 2) (o' := off + i * 9 + 5) (v := v) (by omega)
      have n2_6 := fun (W : World) (v : Value) => cell_setCell_ne (w := W) (b := b) (o := off + i * 9 + 2) (o' := off + i * 9 + 6) (v := v) (by omega)
      have n2_7 := fun (W : World) (v : Value) => cell_setCell_ne (w := W) (b := b) (o := off + i * 9 + 2) (o' := off + i * 9 + 7) (v := v) (by omega)
      have n2_8 := fun (W : World) (v : Value) => cell_setCell_ne (w := W) (b := b) (o := off + i * 9 + 2) (o' := off + i * 9 + 8) (v := v) (by omega)
      have n3_0 := fun (W : World) (v : Value) => cell_setCell_ne (w := W) (b := b) (o := off + i * 9 + 3) (o' := off + i * 9) (v := v) (by omega)
      have n3_1 := fun (W : World) (v : Value) => cell_setCell_ne (w := W) (b := b) (o := off + i * 9 + 3) (o' := off + i * 9 + 1) (v := v) (by omega)
      have n3_2 := fun (W : World) (v : Value) => cell_setCell_ne (w := W) (b := b) (o := off + i * 9 + 3) (o' := off + i * 9 + 2) (v := v) (by omega)
      have n3_4 := fun (W : World) (v : Value) => cell_setCell_ne (w := W) (b := b) (o := off + i * 9 + 3) (o' := off + i * 9 + 4) (v := v) (by omega)
      have n3_5 := fun (W : World) (v : Value) => cell_setCell_ne (w := W) (b := b) (o := off + i * 9 + 3) (o' := off + i * 9 + 5) (v := v) (by omega)
      have n3_6 := fun (W : World) (v : Value) => cell_setCell_ne (w := W) (b := b) (o := off + i * 9 + 3) (o' := off + i * 9 + 6) (v := v) (by omega)
      have n3_7 := fun (W : World) (v : Value) => cell_setCell_ne (w := W) (b := b) (o := off + i * 9 + 3) (o' := off + i * 9 + 7) (v := v) (by omega)
      have n3_8 := fun (W : World) (v : Value) => cell_setCell_ne (w := W) (b := b) (o := off + i * 9 + 3) (o' := off + i * 9 + 8) (v := v) (by omega)
      have n4_0 := fun (W : World) (v : Value) => cell_setCell_ne (w := W) (b := b) (o := off + i * 9 + 4) (o' := off + i * 9) (v := v) (by omega)
      have n4_1 := fun (W : World) (v : Value) => cell_setCell_ne (w := W) (b := b) (o := off + i * 9 + 4) (o' := off + i * 9 + 1) (v := v) (by omega)
      have n4_2 := fun (W : World) (v : Value) => cell_setCell_ne (w := W) (b := b) (o := off + i * 9 + 4) (o' := off + i * 9 + 2) (v := v) (by omega)
      have n4_3 := fun (W : World) (v : Value) => cell_setCell_ne (w := W) (b := b) (o := off + i * 9 + 4) (o' := off + i * 9 + 3) (v := v) (by omega)
      have n4_5 := fun (W : World) (v : Value) => cell_setCell_ne (w := W) (b := b) (o := off + i * 9 + 4) (o' := off + i * 9 + 5) (v := v) (by omega)
      have n4_6 := fun (W : World) (v : Value) => cell_setCell_ne (w := W) (b := b) (o := off + i * 9 + 4) (o' := off + i * 9 + 6) (v := v) (by omega)
      have n4_7 := fun (W : World) (v : Value) => cell_setCell_ne (w := W) (b := b) (o := off + i * 9 + 4) (o' := off + i * 9 + 7) (v := v) (by omega)
      have n4_8 := fun (W : World) (v : Value) => cell_setCell_ne (w := W) (b := b) (o := off + i * 9 + 4) (o' := off + i * 9 + 8) (v := v) (by omega)
      have n5_0 := fun (W : World) (v : Value) => cell_setCell_ne (w := W) (b := b) (o := off + i * 9 + 5) (o' := off + i * 9) (v := v) (by omega)
      have n5_1 := fun (W : World) (v : Value) => cell_setCell_ne (w := W) (b := b) (o := off + i * 9 + 5) (o' := off + i * 9 + 1) (v := v) (by omega)
      have n5_2 := fun (W : World) (v : Value) => cell_setCell_ne (w := W) (b := b) (o := off + i * 9 + 5) (o' := off + i * 9 + 2) (v := v) (by omega)
      have n5_3 := fun (W : World) (v : Value) => cell_setCell_ne (w := W) (b := b) (o := off + i * 9 + 5) (o' := off + i * 9 + 3) (v := v) (by omega)
      have n5_4 := fun (W : World) (v : Value) => cell_setCell_ne (w := W) (b := b) (o := off + i * 9 + 5) (o' := off + i * 9 + 4) (v := v) (by omega)
      have n5_6 := fun (W : World) (v : Value) => cell_setCell_ne (w := W) (b := b) (o := off + i * 9 + 5) (o' := off + i * 9 + 6) (v := v) (by omega)
      have n5_7 := fun (W : World) (v : Value) => cell_setCell_ne (w := W) (b := b) (o := off + i * 9 + 5) (o' := off + i * 9 + 7) (v := v) (by omega)
      have n5_8 := fun (W : World) (v : Value) => cell_setCell_ne (w := W) (b := b) (o := off + i * 9 + 5) (o' := off + i * 9 + 8) (v := v) (by omega)
      have fz := fun (W : World) (o o' : Nat) (v : Value) => (frozen_setCell' : (W.setCell ⟨b, o, none⟩ v).frozen? ⟨b, o', none⟩ = W.frozen? ⟨b, o', none⟩)
      have Hq00 := Lib.hid (wf_mark (y := m) (by omega) (by omega))
      have Hq01 := Lib.hid (mtx_size (m + 1) (by omega))
      have Hq1 := Lib.hid (wf_mark (y := m + 1 + 1) (by omega) (by omega))
      have Hq2 := Lib.hid (wf_mark (y := m + 1 + 1 + 1) (by omega) (by omega))
      have Hq3 := Lib.hid (wf_mark (y := m + 1 + 1 + 1 + 1) (by omega) (by omega))
      have Hq4 := Lib.hid (mtx_size (m + 1 + 1 + 1 + 1 + 1) (by omega))
      have N0 : (fq5 ++ (fq6 ++ (fq7))).Nodup := by simpa only [List.nil_append, List.append_nil] using hnq
      have M0 : b ∉ fq5 ++ (fq6 ++ (fq7)) := by simpa only [List.nil_append, List.append_nil] using hbn
      obtain ⟨uq0, N1, R0⟩ := nodup_app N0
      obtain ⟨uq1, N2, R1⟩ := nodup_app N1
      have uq5 := uq0
      have dq5 : b ∉ fq5 := fun h => M0 (by simp [h])
      have uq6 := uq1
      have dq6 : b ∉ fq6 := fun h => M0 (by simp [h])
      have uq7 := N2
      have dq7 : b ∉ fq7 := fun h => M0 (by simp [h])
      have aq5_q6 : ∀ c ∈ fq5, c ∉ fq6 := fun c h1 h2 => R0 c h1 (by simp [h2])
      have aq6_q5 : ∀ c ∈ fq6, c ∉ fq5 := fun c h1 h2 => R0 c h2 (by simp [h1])
      have aq5_q7 : ∀ c ∈ fq5, c ∉ fq7 := fun c h1 h2 => R0 c h1 (by simp [h2])
      have aq7_q5 : ∀ c ∈ fq7, c ∉ fq5 := fun c h1 h2 => R0 c h2 (by simp [h1])
      have aq6_q7 : ∀ c ∈ fq6, c ∉ fq7 := fun c h1 h2 => R1 c h1 (by simp [h2])
      have aq7_q6 : ∀ c ∈ fq7, c ∉ fq6 := fun c h1 h2 => R1 c h2 (by simp [h1])
      have Sq5 := Lib.hid hq5
      obtain ⟨aaq5, ccq5, rfl, -, -, -⟩ := hq5.open
      have Sq6 := Lib.hid hq6
      obtain ⟨aaq6, ccq6, rfl, -, -, -⟩ := hq6.open
      have Sq7 := Lib.hid hq7
      obtain ⟨aaq7, ccq7, rfl, -, -, -⟩ := hq7.open
      have Haq5_q6 := Lib.hid aq5_q6
      have Haq5_q7 := Lib.hid aq5_q7
      have Haq6_q5 := Lib.hid aq6_q5
      have Haq6_q7 := Lib.hid aq6_q7
      have Haq7_q5 := Lib.hid aq7_q5
      have Haq7_q6 := Lib.hid aq7_q6
      have Hdq5 := Lib.hid dq5
      have Hdq6 := Lib.hid dq6
      have Hdq7 := Lib.hid dq7
      have Huq5 := Lib.hid uq5
      have Huq6 := Lib.hid uq6
      have Huq7 := Lib.hid uq7
      clear aq5_q6 aq5_q7 aq6_q5 aq6_q7 aq7_q5 aq7_q6 dq5 dq6 dq7 uq5 uq6 uq7 M0 N0 N1 N2 uq0 R0 uq1 R1 hq5 hq6 hq7
      clear hc hz hput bd2 g3 em hy hr hcs hq00 hq01 hq1 hq2 hq3 hq4
      have Hbn := Lib.hid hbn
      have Hnq := Lib.hid hnq
      have Hsub := Lib.hid hsub
      clear hbn hnq hsub
      go_wp2_with fail
      refine (markText_any (m + 1) _ (by omega) (by omega)).mono ?_
      rintro e w1 ⟨rfl, x1, rfl⟩
      go_wp2_with fail
      refine (markText_any (m + 1 + 1 + 1 + 1 + 1) _ (by omega) (by omega)).mono ?_
      rintro e w5 ⟨rfl, x5, rfl⟩
      go_wp2_with fail
      refine (markIntS_any fq5 _ q5 (m + 1 + 1 + 1 + 1 + 1 + 1) _ ((SlR.wr Sq5.out (fp := [b]) (by repeat (first | with_reducible refine Wr.setCell ?_ (by simp) _ | with_reducible refine Wr.gr ?_ (Gr.ext (Gr.refl _) _) | exact Wr.refl _ _)) (by have := Hdq5.out; intro c hc hcb; simp at hcb; subst hcb; exact this hc))) Huq5.out (by omega) (by show (mIntS (m + 1 + 1 + 1 + 1 + 1 + 1) q5).2 ≤ _; omega)).mono ?_
      rintro e y6 ⟨rfl, t6, r6⟩
      have T6 := Lib.hid t6
      have R6 := Lib.hid r6
      clear t6 r6
      have F6 := Lib.hid (Foc.inner (b := b) (lo := off + i * Rd.n GEntry) (n := Rd.n GEntry) (fq := (([] ++ []) ++ ([] ++ ([] ++ ([] ++ ([] ++ (fq5 ++ (fq6 ++ fq7)))))))) (w := wr) (by repeat (first | with_reducible refine Foc.set ?_ (by simp [Rd.n] <;> omega) (by simp [Rd.n] <;> omega) _ | with_reducible refine Foc.gr ?_ bl (Gr.ext (Gr.refl _) _) | exact Foc.refl _ _ _ _ _)) bl R6.out (by intro c hc; simp [hc]) Hdq5.out)
      have Sq5x6 := T6
      have Sq6x6 := Lib.hid (SlR.wr (SlR.wr Sq6.out (fp := [b]) (by repeat (first | with_reducible refine Wr.setCell ?_ (by simp) _ | with_reducible refine Wr.gr ?_ (Gr.ext (Gr.refl _) _) | exact Wr.refl _ _)) (by have := Hdq6.out; intro c hc hcb; simp at hcb; subst hcb; exact this hc)) R6.out Haq6_q5.out)
      have Sq7x6 := Lib.hid (SlR.wr (SlR.wr Sq7.out (fp := [b]) (by repeat (first | with_reducible refine Wr.setCell ?_ (by simp) _ | with_reducible refine Wr.gr ?_ (Gr.ext (Gr.refl _) _) | exact Wr.refl _ _)) (by have := Hdq7.out; intro c hc hcb; simp at hcb; subst hcb; exact this hc)) R6.out Haq7_q5.out)
      have e6 := R6.out.block b (Nat.lt_of_lt_of_le bl (Foc.wr (b := b) (lo := off + i * Rd.n GEntry) (n := Rd.n GEntry) (fq := (([] ++ []) ++ ([] ++ ([] ++ ([] ++ ([] ++ (fq5 ++ (fq6 ++ fq7)))))))) (w := wr) (by repeat (first | with_reducible refine Foc.set ?_ (by simp [Rd.n] <;> omega) (by simp [Rd.n] <;> omega) _ | with_reducible refine Foc.gr ?_ bl (Gr.ext (Gr.refl _) _) | exact Foc.refl _ _ _ _ _))).size) Hdq5.out
      have c6 := fun (o : Nat) => World.cell?_of_block (a := ⟨b, o, none⟩) e6
      have z0x6 : y6.cell? ⟨b, off + i * 9, none⟩ = some (.int .i64 (m)) := (c6 _).trans (by go_simp)
      have z1x6 : y6.cell? ⟨b, off + i * 9 + 1, none⟩ = some (.string (mtx (m + 1))) := (c6 _).trans (by go_simp)
      have z2x6 : y6.cell? ⟨b, off + i * 9 + 2, none⟩ = some (.int .i64 (m + 1 + 1)) := (c6 _).trans (by go_simp)
      have z3x6 : y6.cell? ⟨b, off + i * 9 + 3, none⟩ = some (.int .i64 (m + 1 + 1 + 1)) := (c6 _).trans (by go_simp)
      have z4x6 : y6.cell? ⟨b, off + i * 9 + 4, none⟩ = some (.int .i64 (m + 1 + 1 + 1 + 1)) := (c6 _).trans (by go_simp)
      have z5x6 : y6.cell? ⟨b, off + i * 9 + 5, none⟩ = some (.string (mtx (m + 1 + 1 + 1 + 1 + 1))) := (c6 _).trans (by go_simp)
      have z6x6 : y6.cell? ⟨b, off + i * 9 + 6, none⟩ = some (.slice aaq5 q5.length ccq5) := (c6 _).trans (by go_simp)
      have z7x6 : y6.cell? ⟨b, off + i * 9 + 7, none⟩ = some (.slice aaq6 q6.length ccq6) := (c6 _).trans (by go_simp)
      have z8x6 : y6.cell? ⟨b, off + i * 9 + 8, none⟩ = some (.slice aaq7 q7.length ccq7) := (c6 _).trans (by go_simp)
      have s6 := R6.out.size
      clear e6 c6 z0 z1 z2 z3 z4 z5 z6 z7 z8
      clear fz n0_1 n0_2 n0_3 n0_4 n0_5 n0_6 n0_7 n0_8 n1_0 n1_2 n1_3 n1_4 n1_5 n1_6 n1_7 n1_8 n2_0 n2_1 n2_3 n2_4 n2_5 n2_6 n2_7 n2_8 n3_0 n3_1 n3_2 n3_4 n3_5 n3_6 n3_7 n3_8 n4_0 n4_1 n4_2 n4_3 n4_5 n4_6 n4_7 n4_8 n5_0 n5_1 n5_2 n5_3 n5_4 n5_6 n5_7 n5_8 f0 f1 f2 f3 f4 f5
      go_wp2_with fail
      refine (markIntS_any fq6 _ q6 ((mIntS (m + 1 + 1 + 1 + 1 + 1 + 1) q5).2) _ ((SlR.wr Sq6x6.out (fp := [b]) (by repeat (first | with_reducible refine Wr.setCell ?_ (by simp) _ | with_reducible refine Wr.gr ?_ (Gr.ext (Gr.refl _) _) | exact Wr.refl _ _)) (by have := Hdq6.out; intro c hc hcb; simp at hcb; subst hcb; exact this hc))) Huq6.out (by omega) (by show (mIntS ((mIntS (m + 1 + 1 + 1 + 1 + 1 + 1) q5).2) q6).2 ≤ _; omega)).mono ?_
      rintro e y7 ⟨rfl, t7, r7⟩
      have T7 := Lib.hid t7
      have R7 := Lib.hid r7
      clear t7 r7
      have F7 := Lib.hid (Foc.inner (b := b) (lo := off + i * Rd.n GEntry) (n := Rd.n GEntry) (fq := (([] ++ []) ++ ([] ++ ([] ++ ([] ++ ([] ++ (fq5 ++ (fq6 ++ fq7)))))))) (w := wr) (by repeat (first | with_reducible refine Foc.set ?_ (by simp [Rd.n] <;> omega) (by simp [Rd.n] <;> omega) _ | with_reducible refine Foc.gr ?_ bl (Gr.ext (Gr.refl _) _) | exact F6.out)) bl R7.out (by intro c hc; simp [hc]) Hdq6.out)
      have Sq5x7 := Lib.hid (SlR.wr (SlR.wr Sq5x6.out (fp := [b]) (by repeat (first | with_reducible refine Wr.setCell ?_ (by simp) _ | with_reducible refine Wr.gr ?_ (Gr.ext (Gr.refl _) _) | exact Wr.refl _ _)) (by have := Hdq5.out; intro c hc hcb; simp at hcb; subst hcb; exact this hc)) R7.out Haq5_q6.out)
      have Sq6x7 := T7
      have Sq7x7 := Lib.hid (SlR.wr (SlR.wr Sq7x6.out (fp := [b]) (by repeat (first | with_reducible refine Wr.setCell ?_ (by simp) _ | with_reducible refine Wr.gr ?_ (Gr.ext (Gr.refl _) _) | exact Wr.refl _ _)) (by have := Hdq7.out; intro c hc hcb; simp at hcb; subst hcb; exact this hc)) R7.out Haq7_q6.out)
      have e7 := R7.out.block b (Nat.lt_of_lt_of_le bl (Foc.wr (b := b) (lo := off + i * Rd.n GEntry) (n := Rd.n GEntry) (fq := (([] ++ []) ++ ([] ++ ([] ++ ([] ++ ([] ++ (fq5 ++ (fq6 ++ fq7)))))))) (w := wr) (by repeat (first | with_reducible refine Foc.set ?_ (by simp [Rd.n] <;> omega) (by simp [Rd.n] <;> omega) _ | with_reducible refine Foc.gr ?_ bl (Gr.ext (Gr.refl _) _) | exact F6.out))).size) Hdq6.out
      have c7 := fun (o : Nat) => World.cell?_of_block (a := ⟨b, o, none⟩) e7
      have z0x7 : y7.cell? ⟨b, off + i * 9, none⟩ = some (.int .i64 (m)) := (c7 _).trans z0x6
      have z1x7 : y7.cell? ⟨b, off + i * 9 + 1, none⟩ = some (.string (mtx (m + 1))) := (c7 _).trans z1x6
      have z2x7 : y7.cell? ⟨b, off + i * 9 + 2, none⟩ = some (.int .i64 (m + 1 + 1)) := (c7 _).trans z2x6
      have z3x7 : y7.cell? ⟨b, off + i * 9 + 3, none⟩ = some (.int .i64 (m + 1 + 1 + 1)) := (c7 _).trans z3x6
      have z4x7 : y7.cell? ⟨b, off + i * 9 + 4, none⟩ = some (.int .i64 (m + 1 + 1 + 1 + 1)) := (c7 _).trans z4x6
      have z5x7 : y7.cell? ⟨b, off + i * 9 + 5, none⟩ = some (.string (mtx (m + 1 + 1 + 1 + 1 + 1))) := (c7 _).trans z5x6
      have z6x7 : y7.cell? ⟨b, off + i * 9 + 6, none⟩ = some (.slice aaq5 q5.length ccq5) := (c7 _).trans z6x6
      have z7x7 : y7.cell? ⟨b, off + i * 9 + 7, none⟩ = some (.slice aaq6 q6.length ccq6) := (c7 _).trans z7x6
      have z8x7 : y7.cell? ⟨b, off + i * 9 + 8, none⟩ = some (.slice aaq7 q7.length ccq7) := (c7 _).trans z8x6
      have s7 := R7.out.size
      clear e7 c7 z0x6 z1x6 z2x6 z3x6 z4x6 z5x6 z6x6 z7x6 z8x6
      go_wp2_with fail
      refine (markReadingS_any fq7 _ q7 ((mIntS ((mIntS (m + 1 + 1 + 1 + 1 + 1 + 1) q5).2) q6).2) _ ((SlR.wr Sq7x7.out (fp := [b]) (by repeat (first | with_reducible refine Wr.setCell ?_ (by simp) _ | with_reducible refine Wr.gr ?_ (Gr.ext (Gr.refl _) _) | exact Wr.refl _ _)) (by have := Hdq7.out; intro c hc hcb; simp at hcb; subst hcb; exact this hc))) Huq7.out (by omega) (by show (mReadingS ((mIntS ((mIntS (m + 1 + 1 + 1 + 1 + 1 + 1) q5).2) q6).2) q7).2 ≤ _; omega)).mono ?_
      rintro e y8 ⟨rfl, t8, r8⟩
      have T8 := Lib.hid t8
      have R8 := Lib.hid r8
      clear t8 r8
      have F8 := Lib.hid (Foc.inner (b := b) (lo := off + i * Rd.n GEntry) (n := Rd.n GEntry) (fq := (([] ++ []) ++ ([] ++ ([] ++ ([] ++ ([] ++ (fq5 ++ (fq6 ++ fq7)))))))) (w := wr) (by repeat (first | with_reducible refine Foc.set ?_ (by simp [Rd.n] <;> omega) (by simp [Rd.n] <;> omega) _ | with_reducible refine Foc.gr ?_ bl (Gr.ext (Gr.refl _) _) | exact F7.out)) bl R8.out (by intro c hc; simp [hc]) Hdq7.out)
      have Sq5x8 := Lib.hid (SlR.wr (SlR.wr Sq5x7.out (fp := [b]) (by repeat (first | with_reducible refine Wr.setCell ?_ (by simp) _ | with_reducible refine Wr.gr ?_ (Gr.ext (Gr.refl _) _) | exact Wr.refl _ _)) (by have := Hdq5.out; intro c hc hcb; simp at hcb; subst hcb; exact this hc)) R8.out Haq5_q7.out)
      have Sq6x8 := Lib.hid (SlR.wr (SlR.wr Sq6x7.out (fp := [b]) (by repeat (first | with_reducible refine Wr.setCell ?_ (by simp) _ | with_reducible refine Wr.gr ?_ (Gr.ext (Gr.refl _) _) | exact Wr.refl _ _)) (by have := Hdq6.out; intro c hc hcb; simp at hcb; subst hcb; exact this hc)) R8.out Haq6_q7.out)
      have Sq7x8 := T8
      have e8 := R8.out.block b (Nat.lt_of_lt_of_le bl (Foc.wr (b := b) (lo := off + i * Rd.n GEntry) (n := Rd.n GEntry) (fq := (([] ++ []) ++ ([] ++ ([] ++ ([] ++ ([] ++ (fq5 ++ (fq6 ++ fq7)))))))) (w := wr) (by repeat (first | with_reducible refine Foc.set ?_ (by simp [Rd.n] <;> omega) (by simp [Rd.n] <;> omega) _ | with_reducible refine Foc.gr ?_ bl (Gr.ext (Gr.refl _) _) | exact F7.out))).size) Hdq7.out
      have c8 := fun (o : Nat) => World.cell?_of_block (a := ⟨b, o, none⟩) e8
      have z0x8 : y8.cell? ⟨b, off + i * 9, none⟩ = some (.int .i64 (m)) := (c8 _).trans z0x7
      have z1x8 : y8.cell? ⟨b, off + i * 9 + 1, none⟩ = some (.string (mtx (m + 1))) := (c8 _).trans z1x7
      have z2x8 : y8.cell? ⟨b, off + i * 9 + 2, none⟩ = some (.int .i64 (m + 1 + 1)) := (c8 _).trans z2x7
      have z3x8 : y8.cell? ⟨b, off + i * 9 + 3, none⟩ = some (.int .i64 (m + 1 + 1 + 1)) := (c8 _).trans z3x7
      have z4x8 : y8.cell? ⟨b, off + i * 9 + 4, none⟩ = some (.int .i64 (m + 1 + 1 + 1 + 1)) := (c8 _).trans z4x7
      have z5x8 : y8.cell? ⟨b, off + i * 9 + 5, none⟩ = some (.string (mtx (m + 1 + 1 + 1 + 1 + 1))) := (c8 _).trans z5x7
      have z6x8 : y8.cell? ⟨b, off + i * 9 + 6, none⟩ = some (.slice aaq5 q5.length ccq5) := (c8 _).trans z6x7
      have z7x8 : y8.cell? ⟨b, off + i * 9 + 7, none⟩ = some (.slice aaq6 q6.length ccq6) := (c8 _).trans z7x7
      have z8x8 : y8.cell? ⟨b, off + i * 9 + 8, none⟩ = some (.slice aaq7 q7.length ccq7) := (c8 _).trans z8x7
      have s8 := R8.out.size
      clear e8 c8 z0x7 z1x7 z2x7 z3x7 z4x7 z5x7 z6x7 z7x7 z8x7
      go_wp2_with fail
      refine ⟨⟨i + 1, (mReadingS ((mIntS ((mIntS (m + 1 + 1 + 1 + 1 + 1 + 1) q5).2) q6).2) q7).2, by omega, Lib.hid ?_, ?_, ?_, by go_num, rfl⟩, by simp [intOf]; omega⟩
      · rw [markK_succ mEntry k xs hlt, ← hm.out, ← HY.out]; rfl
      · rw [markT_succ mEntry k xs hlt, ← hm.out, ← HY.out]
        refine HP.out _ [.int .i64 (m), .string (mtx (m + 1)), .int .i64 (m + 1 + 1), .int .i64 (m + 1 + 1 + 1), .int .i64 (m + 1 + 1 + 1 + 1), .string (mtx (m + 1 + 1 + 1 + 1 + 1)), .slice aaq5 q5.length ccq5, .slice aaq6 q6.length ccq6, .slice aaq7 q7.length ccq7] (mEntry m ((q00, q01), q1, q2, q3, q4, q5, q6, q7)).1 (by repeat (first | with_reducible refine Foc.set ?_ (by simp [Rd.n] <;> omega) (by simp [Rd.n] <;> omega) _ | with_reducible refine Foc.gr ?_ bl (Gr.ext (Gr.refl _) _) | exact F8.out)) (fun j v hj => ?_) (rdEntry_mk (m) (mtx (m + 1)) (m + 1 + 1) (m + 1 + 1 + 1) (m + 1 + 1 + 1 + 1) (mtx (m + 1 + 1 + 1 + 1 + 1)) ((mIntS (m + 1 + 1 + 1 + 1 + 1 + 1) q5).1) ((mIntS ((mIntS (m + 1 + 1 + 1 + 1 + 1 + 1) q5).2) q6).1) ((mReadingS ((mIntS ((mIntS (m + 1 + 1 + 1 + 1 + 1 + 1) q5).2) q6).2) q7).1) Hq00.out Hq01.out Hq1.out Hq2.out Hq3.out Hq4.out (SlR.wr Sq5x8.out (fp := [b]) (by repeat (first | with_reducible refine Wr.setCell ?_ (by simp) _ | with_reducible refine Wr.gr ?_ (Gr.ext (Gr.refl _) _) | exact Wr.refl _ _)) (by have := Hdq5.out; intro c hc hcb; simp at hcb; subst hcb; exact this hc)) (SlR.wr Sq6x8.out (fp := [b]) (by repeat (first | with_reducible refine Wr.setCell ?_ (by simp) _ | with_reducible refine Wr.gr ?_ (Gr.ext (Gr.refl _) _) | exact Wr.refl _ _)) (by have := Hdq6.out; intro c hc hcb; simp at hcb; subst hcb; exact this hc)) (SlR.wr Sq7x8.out (fp := [b]) (by repeat (first | with_reducible refine Wr.setCell ?_ (by simp) _ | with_reducible refine Wr.gr ?_ (Gr.ext (Gr.refl _) _) | exact Wr.refl _ _)) (by have := Hdq7.out; intro c hc hcb; simp at hcb; subst hcb; exact this hc)))
        have en : off + i * Rd.n GEntry = off + i * 9 := rfl
        rw [en]
        match j, hj with
        | 0, hj => obtain rfl := Option.some.inj hj; exact z0x8
        | 1, hj => obtain rfl := Option.some.inj hj; exact z1x8
        | 2, hj => obtain rfl := Option.some.inj hj; exact z2x8
        | 3, hj => obtain rfl := Option.some.inj hj; exact z3x8
        | 4, hj => obtain rfl := Option.some.inj hj; exact z4x8
        | 5, hj => obtain rfl := Option.some.inj hj; exact z5x8
        | 6, hj => obtain rfl := Option.some.inj hj; exact z6x8
        | 7, hj => obtain rfl := Option.some.inj hj; exact z7x8
        | 8, hj => obtain rfl := Option.some.inj hj; exact z8x8
      · exact HW.out.trans (Wr.sub (Foc.wr (b := b) (lo := off + i * Rd.n GEntry) (n := Rd.n GEntry) (fq := (([] ++ []) ++ ([] ++ ([] ++ ([] ++ ([] ++ (fq5 ++ (fq6 ++ fq7)))))))) (by repeat (first | with_reducible refine Foc.set ?_ (by simp [Rd.n] <;> omega) (by simp [Rd.n] <;> omega) _ | with_reducible refine Foc.gr ?_ bl (Gr.ext (Gr.refl _) _) | exact F8.out))) (fun c hc => by
          rcases List.mem_cons.1 hc with rfl | hc
          · exact hbm
          · exact Hsub.out c hc))
    · have hk2 : i = xs.length := by omega
      subst hk2
      have hs2 := HS.out
      rw [markT_all] at hs2
      have hm2 := hm.out
      rw [List.take_length] at hm2
      have HS2 := Lib.hid hs2
      have HM2 := Lib.hid hm2
      clear hs2 hm2 HS hm
      go_wp2
      go_ret
      exact ⟨ret_int HM2.out, HS2.out, HW.out⟩

end Go.Proofs.YtbfmeiooeaaibaaGreat

namespace Go.Proofs.YtbfmeiooeaaibaaGreat
open Go.RowKit

/-- The marks of a value. -/
def vEntry (k : Int) : GEntry → GEntry × Int
  | ((q00, q01), q1, q2, q3, q4, q5, q6, q7) => (((q00, q01), q1, q2, q3, q4, (mIntS (k) q5).1, (mIntS ((mIntS (k) q5).2) q6).1, (mReadingS ((mIntS ((mIntS (k) q5).2) q6).2) q7).1), (mReadingS ((mIntS ((mIntS (k) q5).2) q6).2) q7).2)
theorem vEntry_bd (k : Int) (x : GEntry) : k ≤ (vEntry k x).2 ∧ (vEntry k x).2 ≤ k + 16 * (1 + wtEntry x) := by
  obtain ⟨⟨q00, q01⟩, q1, q2, q3, q4, q5, q6, q7⟩ := x
  have bq5 := mIntS_bd (k) q5
  have bq6 := mIntS_bd ((mIntS (k) q5).2) q6
  have bq7 := mReadingS_bd ((mIntS ((mIntS (k) q5).2) q6).2) q7
  have hw : wtEntry ((q00, q01), q1, q2, q3, q4, q5, q6, q7) = (wtInstance (q00, q01)) + (q4.size) + (q5.length) + (q6.length) + (wtReadingS q7) := rfl
  simp only [vEntry] at *
  omega

set_option maxHeartbeats 1000000 in
theorem markEntry_any (fp : List Nat) (cs : Array Value) (x : GEntry) (k : Int) (w : World) (hx : Rd.rd fp w cs.toList x) (hnd : fp.Nodup) (h0 : 0 < k) (h1 : (vEntry k x).2 ≤ 4398046511104) :
    Calls Tryz.prog 19 #[.agg cs, .int .i64 k] w fun e w' => e = .returned (.int .i64 (vEntry k x).2) ∧ Rd.rd fp w' cs.toList (vEntry k x).1 ∧ Wr fp w w' := by
  have hlt := Rd.lt hx
  obtain ⟨⟨q00, q01⟩, q1, q2, q3, q4, q5, q6, q7⟩ := x
  obtain ⟨vq5, fq5, vq6, fq6, vq7, fq7, rfl, hfq, hq00, hq01, hq1, hq2, hq3, hq4, hq5, hq6, hq7⟩ := rdEntry_inv q00 q01 q1 q2 q3 q4 q5 q6 q7 hx
  obtain rfl : fp = (([] ++ []) ++ ([] ++ ([] ++ ([] ++ ([] ++ (fq5 ++ (fq6 ++ fq7))))))) := hfq
  have m1 : (mReadingS ((mIntS ((mIntS (k) q5).2) q6).2) q7).2 ≤ 4398046511104 := h1
  have N0 : (fq5 ++ (fq6 ++ (fq7))).Nodup := by simpa only [List.nil_append, List.append_nil] using hnd
  have L0 : ∀ c ∈ (fq5 ++ (fq6 ++ (fq7))), c < w.heap.size := by simpa only [List.nil_append, List.append_nil] using hlt
  obtain ⟨uq0, N1, R0⟩ := nodup_app N0
  obtain ⟨uq1, N2, R1⟩ := nodup_app N1
  have uq5 := uq0
  have Hlq5 := Lib.hid (fun c (h : c ∈ fq5) => L0 c (by simp [h]))
  have uq6 := uq1
  have Hlq6 := Lib.hid (fun c (h : c ∈ fq6) => L0 c (by simp [h]))
  have uq7 := N2
  have Hlq7 := Lib.hid (fun c (h : c ∈ fq7) => L0 c (by simp [h]))
  have Haq5_q6 := Lib.hid (fun c (h1 : c ∈ fq5) (h2 : c ∈ fq6) => R0 c h1 (by simp [h2]))
  have Haq6_q5 := Lib.hid (fun c (h1 : c ∈ fq6) (h2 : c ∈ fq5) => R0 c h2 (by simp [h1]))
  have Haq5_q7 := Lib.hid (fun c (h1 : c ∈ fq5) (h2 : c ∈ fq7) => R0 c h1 (by simp [h2]))
  have Haq7_q5 := Lib.hid (fun c (h1 : c ∈ fq7) (h2 : c ∈ fq5) => R0 c h2 (by simp [h1]))
  have Haq6_q7 := Lib.hid (fun c (h1 : c ∈ fq6) (h2 : c ∈ fq7) => R1 c h1 (by simp [h2]))
  have Haq7_q6 := Lib.hid (fun c (h1 : c ∈ fq7) (h2 : c ∈ fq6) => R1 c h2 (by simp [h1]))
  have Huq5 := Lib.hid uq5
  have Huq6 := Lib.hid uq6
  have Huq7 := Lib.hid uq7
  have bq5 := mIntS_mono (k) q5
  have bq6 := mIntS_mono ((mIntS (k) q5).2) q6
  have bq7 := mReadingS_mono ((mIntS ((mIntS (k) q5).2) q6).2) q7
  have Sq5 := Lib.hid hq5
  obtain ⟨aq5, cq5, rfl, -, -, -⟩ := hq5.open
  have Sq6 := Lib.hid hq6
  obtain ⟨aq6, cq6, rfl, -, -, -⟩ := hq6.open
  have Sq7 := Lib.hid hq7
  obtain ⟨aq7, cq7, rfl, -, -, -⟩ := hq7.open
  have Hq00 := Lib.hid hq00
  have Hq01 := Lib.hid hq01
  have Hq1 := Lib.hid hq1
  have Hq2 := Lib.hid hq2
  have Hq3 := Lib.hid hq3
  have Hq4 := Lib.hid hq4
  clear hx hlt h1 hnd L0 hq00 hq01 hq1 hq2 hq3 hq4 hq5 hq6 hq7 uq5 uq6 uq7 R0 R1 N0
  go_enter Tryz.func19, Tryz.ntmps19
  go_wp2_with fail
  refine (markIntS_any fq5 _ q5 (k) _ (Sq5.out.gr (by repeat (first | exact Gr.refl _ | apply Gr.ext | apply Gr.alloc | apply Gr.drew))) Huq5.out (by omega) (by show (mIntS (k) q5).2 ≤ _; omega)).mono ?_
  rintro e y6 ⟨rfl, t6, r6⟩
  have T6 := Lib.hid t6
  have R6 := Lib.hid r6
  clear t6 r6
  rw [show (markL mInt (k) q5).2 = (mIntS (k) q5).2 from rfl]
  have W6 := Lib.hid ((Gr.toWr (by exact (by repeat (first | exact Gr.refl _ | apply Gr.ext | apply Gr.alloc | apply Gr.drew)) : Gr w (w.alloc (.cells #[.int .i64 q00, .string q01, .int .i64 q1, .int .i64 q2, .int .i64 q3, .string q4, .slice aq5 q5.length cq5, .slice aq6 q6.length cq6, .slice aq7 q7.length cq7] 38))) (fq5 ++ (fq6 ++ (fq7)))).trans (R6.out.sub (fun c hc => by simp [hc])))
  have Sq6x6 := Lib.hid (SlR.wr (Sq6.out.gr (by repeat (first | exact Gr.refl _ | apply Gr.ext | apply Gr.alloc | apply Gr.drew))) R6.out Haq6_q5.out)
  have Sq7x6 := Lib.hid (SlR.wr (Sq7.out.gr (by repeat (first | exact Gr.refl _ | apply Gr.ext | apply Gr.alloc | apply Gr.drew))) R6.out Haq7_q5.out)
  have e6 := R6.out.block w.heap.size (by simp) (fun h => Nat.lt_irrefl _ (Hlq5.out _ h))
  have c6 := fun (o : Nat) => World.cell?_of_block (a := ⟨w.heap.size, o, none⟩) e6
  have z7x6 : y6.cell? ⟨w.heap.size, 7, none⟩ = some (.slice aq6 q6.length cq6) := (c6 _).trans (box_cell rfl rfl)
  have z8x6 : y6.cell? ⟨w.heap.size, 8, none⟩ = some (.slice aq7 q7.length cq7) := (c6 _).trans (box_cell rfl rfl)
  have s6 := blk z7x6
  clear e6 c6
  go_wp2_with fail
  refine (markIntS_any fq6 _ q6 ((mIntS (k) q5).2) _ Sq6x6.out Huq6.out (by omega) (by show (mIntS ((mIntS (k) q5).2) q6).2 ≤ _; omega)).mono ?_
  rintro e y7 ⟨rfl, t7, r7⟩
  have T7 := Lib.hid t7
  have R7 := Lib.hid r7
  clear t7 r7
  rw [show (markL mInt ((mIntS (k) q5).2) q6).2 = (mIntS ((mIntS (k) q5).2) q6).2 from rfl]
  have W7 := Lib.hid (W6.out.trans (R7.out.sub (fun c hc => by simp [hc])))
  have Sq5x7 := Lib.hid (SlR.wr T6.out R7.out Haq5_q6.out)
  have Sq7x7 := Lib.hid (SlR.wr Sq7x6.out R7.out Haq7_q6.out)
  have e7 := R7.out.block w.heap.size s6 (fun h => Nat.lt_irrefl _ (Hlq6.out _ h))
  have c7 := fun (o : Nat) => World.cell?_of_block (a := ⟨w.heap.size, o, none⟩) e7
  have z8x7 : y7.cell? ⟨w.heap.size, 8, none⟩ = some (.slice aq7 q7.length cq7) := (c7 _).trans z8x6
  have s7 := blk z8x7
  clear e7 c7 z7x6 z8x6
  go_wp2_with fail
  refine (markReadingS_any fq7 _ q7 ((mIntS ((mIntS (k) q5).2) q6).2) _ Sq7x7.out Huq7.out (by omega) (by show (mReadingS ((mIntS ((mIntS (k) q5).2) q6).2) q7).2 ≤ _; omega)).mono ?_
  rintro e y8 ⟨rfl, t8, r8⟩
  have T8 := Lib.hid t8
  have R8 := Lib.hid r8
  clear t8 r8
  have W8 := Lib.hid (W7.out.trans (R8.out.sub (fun c hc => by simp [hc])))
  have Sq5x8 := Lib.hid (SlR.wr Sq5x7.out R8.out Haq5_q7.out)
  have Sq6x8 := Lib.hid (SlR.wr T7.out R8.out Haq6_q7.out)
  go_wp2_with fail
  go_ret
  refine ⟨rfl, ?_, W8.out.sub (fun c hc => by simpa using hc)⟩
  have hl := rdEntry_mk (q00) (q01) (q1) (q2) (q3) (q4) ((mIntS (k) q5).1) ((mIntS ((mIntS (k) q5).2) q6).1) ((mReadingS ((mIntS ((mIntS (k) q5).2) q6).2) q7).1) Hq00.out Hq01.out Hq1.out Hq2.out Hq3.out Hq4.out Sq5x8.out Sq6x8.out T8.out
  exact hl

set_option maxHeartbeats 1000000 in
theorem heldEntry_any (fp : List Nat) (cs : Array Value) (x : GEntry) (k : Int) (w : World) (hx : Rd.rd fp w cs.toList (vEntry k x).1) (h0 : 0 < k) (h1 : (vEntry k x).2 ≤ 4398046511104) :
    Calls Tryz.prog 20 #[.agg cs, .int .i64 k] w fun e w' => e = .returned (.int .i64 (vEntry k x).2) ∧ Gr w w' := by
  obtain ⟨⟨q00, q01⟩, q1, q2, q3, q4, q5, q6, q7⟩ := x
  obtain ⟨vq5, fq5, vq6, fq6, vq7, fq7, rfl, -, -, -, -, -, -, -, hq5, hq6, hq7⟩ := rdEntry_inv (q00) (q01) (q1) (q2) (q3) (q4) ((mIntS (k) q5).1) ((mIntS ((mIntS (k) q5).2) q6).1) ((mReadingS ((mIntS ((mIntS (k) q5).2) q6).2) q7).1) hx
  have m1 : (mReadingS ((mIntS ((mIntS (k) q5).2) q6).2) q7).2 ≤ 4398046511104 := h1
  have bq5 := mIntS_mono (k) q5
  have bq6 := mIntS_mono ((mIntS (k) q5).2) q6
  have bq7 := mReadingS_mono ((mIntS ((mIntS (k) q5).2) q6).2) q7
  have Sq5 := Lib.hid hq5
  obtain ⟨aq5, cq5, rfl, -, -, -⟩ := hq5.open
  have Sq6 := Lib.hid hq6
  obtain ⟨aq6, cq6, rfl, -, -, -⟩ := hq6.open
  have Sq7 := Lib.hid hq7
  obtain ⟨aq7, cq7, rfl, -, -, -⟩ := hq7.open
  clear hx h1 hq5 hq6 hq7
  go_enter Tryz.func20, Tryz.ntmps20
  go_wp2_with fail
  refine (heldIntS_any fq5 _ q5 (k) _ (Sq5.out.gr (by repeat (first | exact Gr.refl _ | apply Gr.ext | apply Gr.alloc | apply Gr.drew))) (by omega) (by show (mIntS (k) q5).2 ≤ _; omega)).mono ?_
  rintro e w6 ⟨rfl, x6, rfl⟩
  have nn6 : 0 ≤ (mIntS (k) q5).2 := by omega
  rw [show (markL mInt (k) q5).2 = (mIntS (k) q5).2 from rfl]
  go_wp2_with fail
  refine (heldIntS_any fq6 _ q6 ((mIntS (k) q5).2) _ (Sq6.out.gr (by repeat (first | exact Gr.refl _ | apply Gr.ext | apply Gr.alloc | apply Gr.drew))) (by omega) (by show (mIntS ((mIntS (k) q5).2) q6).2 ≤ _; omega)).mono ?_
  rintro e w7 ⟨rfl, x7, rfl⟩
  have nn7 : 0 ≤ (mIntS ((mIntS (k) q5).2) q6).2 := by omega
  rw [show (markL mInt ((mIntS (k) q5).2) q6).2 = (mIntS ((mIntS (k) q5).2) q6).2 from rfl]
  go_wp2_with fail
  refine (heldReadingS_any fq7 _ q7 ((mIntS ((mIntS (k) q5).2) q6).2) _ (Sq7.out.gr (by repeat (first | exact Gr.refl _ | apply Gr.ext | apply Gr.alloc | apply Gr.drew))) (by omega) (by show (mReadingS ((mIntS ((mIntS (k) q5).2) q6).2) q7).2 ≤ _; omega)).mono ?_
  rintro e w8 ⟨rfl, x8, rfl⟩
  have nn8 : 0 ≤ (mReadingS ((mIntS ((mIntS (k) q5).2) q6).2) q7).2 := by omega
  go_wp2_with fail
  go_ret
  exact ⟨rfl, (by repeat (first | exact Gr.refl _ | apply Gr.ext | apply Gr.alloc | apply Gr.drew))⟩

/-- The marks of a value. -/
def vMemo (k : Int) : GMemo → GMemo × Int
  | (q0, q1) => (((mEntryS (k) q0).1, (mInstanceS ((mEntryS (k) q0).2) q1).1), (mInstanceS ((mEntryS (k) q0).2) q1).2)
theorem vMemo_bd (k : Int) (x : GMemo) : k ≤ (vMemo k x).2 ∧ (vMemo k x).2 ≤ k + 16 * (1 + wtMemo x) := by
  obtain ⟨q0, q1⟩ := x
  have bq0 := mEntryS_bd (k) q0
  have bq1 := mInstanceS_bd ((mEntryS (k) q0).2) q1
  have hw : wtMemo (q0, q1) = (wtEntryS q0) + (wtInstanceS q1) := rfl
  simp only [vMemo] at *
  omega

set_option maxHeartbeats 1000000 in
theorem markMemo_any (fp : List Nat) (cs : Array Value) (x : GMemo) (k : Int) (w : World) (hx : Rd.rd fp w cs.toList x) (hnd : fp.Nodup) (h0 : 0 < k) (h1 : (vMemo k x).2 ≤ 4398046511104) :
    Calls Tryz.prog 29 #[.agg cs, .int .i64 k] w fun e w' => e = .returned (.int .i64 (vMemo k x).2) ∧ Rd.rd fp w' cs.toList (vMemo k x).1 ∧ Wr fp w w' := by
  have hlt := Rd.lt hx
  obtain ⟨q0, q1⟩ := x
  obtain ⟨vq0, fq0, vq1, fq1, rfl, hfq, hq0, hq1⟩ := rdMemo_inv q0 q1 hx
  obtain rfl : fp = (fq0 ++ fq1) := hfq
  have m1 : (mInstanceS ((mEntryS (k) q0).2) q1).2 ≤ 4398046511104 := h1
  have N0 : (fq0 ++ (fq1)).Nodup := by simpa only [List.nil_append, List.append_nil] using hnd
  have L0 : ∀ c ∈ (fq0 ++ (fq1)), c < w.heap.size := by simpa only [List.nil_append, List.append_nil] using hlt
  obtain ⟨uq0, N1, R0⟩ := nodup_app N0
  have uq0 := uq0
  have Hlq0 := Lib.hid (fun c (h : c ∈ fq0) => L0 c (by simp [h]))
  have uq1 := N1
  have Hlq1 := Lib.hid (fun c (h : c ∈ fq1) => L0 c (by simp [h]))
  have Haq0_q1 := Lib.hid (fun c (h1 : c ∈ fq0) (h2 : c ∈ fq1) => R0 c h1 (by simp [h2]))
  have Haq1_q0 := Lib.hid (fun c (h1 : c ∈ fq1) (h2 : c ∈ fq0) => R0 c h2 (by simp [h1]))
  have Huq0 := Lib.hid uq0
  have Huq1 := Lib.hid uq1
  have bq0 := mEntryS_mono (k) q0
  have bq1 := mInstanceS_mono ((mEntryS (k) q0).2) q1
  have Sq0 := Lib.hid hq0
  obtain ⟨aq0, cq0, rfl, -, -, -⟩ := hq0.open
  have Sq1 := Lib.hid hq1
  obtain ⟨aq1, cq1, rfl, -, -, -⟩ := hq1.open
  clear hx hlt h1 hnd L0  hq0 hq1 uq0 uq1 R0 N0
  go_enter Tryz.func29, Tryz.ntmps29
  go_wp2_with fail
  refine (markEntryS_any fq0 _ q0 (k) _ (Sq0.out.gr (by repeat (first | exact Gr.refl _ | apply Gr.ext | apply Gr.alloc | apply Gr.drew))) Huq0.out (by omega) (by show (mEntryS (k) q0).2 ≤ _; omega)).mono ?_
  rintro e y0 ⟨rfl, t0, r0⟩
  have T0 := Lib.hid t0
  have R0 := Lib.hid r0
  clear t0 r0
  have W0 := Lib.hid ((Gr.toWr (by exact (by repeat (first | exact Gr.refl _ | apply Gr.ext | apply Gr.alloc | apply Gr.drew)) : Gr w (w.alloc (.cells #[.slice aq0 q0.length cq0, .slice aq1 q1.length cq1] 66))) (fq0 ++ (fq1))).trans (R0.out.sub (fun c hc => by simp [hc])))
  have Sq1x0 := Lib.hid (SlR.wr (Sq1.out.gr (by repeat (first | exact Gr.refl _ | apply Gr.ext | apply Gr.alloc | apply Gr.drew))) R0.out Haq1_q0.out)
  have e0 := R0.out.block w.heap.size (by simp) (fun h => Nat.lt_irrefl _ (Hlq0.out _ h))
  have c0 := fun (o : Nat) => World.cell?_of_block (a := ⟨w.heap.size, o, none⟩) e0
  have z1x0 : y0.cell? ⟨w.heap.size, 1, none⟩ = some (.slice aq1 q1.length cq1) := (c0 _).trans (box_cell rfl rfl)
  have s0 := blk z1x0
  clear e0 c0
  go_wp2_with fail
  refine (markInstanceS_any fq1 _ q1 ((mEntryS (k) q0).2) _ Sq1x0.out Huq1.out (by omega) (by show (mInstanceS ((mEntryS (k) q0).2) q1).2 ≤ _; omega)).mono ?_
  rintro e y1 ⟨rfl, t1, r1⟩
  have T1 := Lib.hid t1
  have R1 := Lib.hid r1
  clear t1 r1
  have W1 := Lib.hid (W0.out.trans (R1.out.sub (fun c hc => by simp [hc])))
  have Sq0x1 := Lib.hid (SlR.wr T0.out R1.out Haq0_q1.out)
  go_wp2_with fail
  go_ret
  refine ⟨rfl, ?_, W1.out.sub (fun c hc => by simpa using hc)⟩
  have hl := rdMemo_mk ((mEntryS (k) q0).1) ((mInstanceS ((mEntryS (k) q0).2) q1).1) Sq0x1.out T1.out
  exact hl

end Go.Proofs.YtbfmeiooeaaibaaGreat
