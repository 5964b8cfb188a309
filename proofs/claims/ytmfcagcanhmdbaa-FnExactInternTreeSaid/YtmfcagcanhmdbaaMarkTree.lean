/- Contracts of the functions that mark and look at marks: Node*, Tree. Made by mk_mark.py. No condition. -/
import Derived.Test.YtmfcagcanhmdbaaMarkInts
import Derived.Test.YtmfcagcanhmdbaaFamTree
namespace Go.Proofs.Ytmfcagcanhmdbaa
open Go.RowKit

/-- The marks of an element. -/
def mNode (k : Int) : GNode → GNode × Int
  | (_, _, _, _, _, q5) => ((k, k + 1, k + 1 + 1, k + 1 + 1 + 1, mtx (k + 1 + 1 + 1 + 1), (mIntS (k + 1 + 1 + 1 + 1 + 1) q5).1), (mIntS (k + 1 + 1 + 1 + 1 + 1) q5).2)
theorem mNode_bd (k : Int) (x : GNode) : k ≤ (mNode k x).2 ∧ (mNode k x).2 ≤ k + 16 * (1 + wtNode x) := by
  obtain ⟨q0, q1, q2, q3, q4, q5⟩ := x
  have bq5 := mIntS_bd (k + 1 + 1 + 1 + 1 + 1) q5
  have hw : wtNode (q0, q1, q2, q3, q4, q5) = (q4.size) + (q5.length) := rfl
  simp only [mNode] at *
  omega
theorem mNode_mono (k : Int) (x : GNode) : k ≤ (mNode k x).2 := (mNode_bd k x).1
def mNodeS (k : Int) (x : List GNode) : List GNode × Int := markL mNode k x
theorem mNodeS_len (k : Int) (x : List GNode) : (mNodeS k x).1.length = x.length := markL_len _ _ _
theorem mNodeS_bd (k : Int) (x : List GNode) : k ≤ (mNodeS k x).2 ∧ (mNodeS k x).2 ≤ k + 16 * wtNodeS x := by
  have := markL_bd mNode wtNode mNode_bd x k
  unfold mNodeS wtNodeS
  exact this
theorem mNodeS_mono (k : Int) (x : List GNode) : k ≤ (mNodeS k x).2 := (mNodeS_bd k x).1

set_option maxHeartbeats 4000000 in
theorem markNodeS_any (fp : List Nat) (u : Value) (xs : List GNode) (k : Int) (w : World) (hu : SlR fp w u xs) (hnd : fp.Nodup) (h0 : 0 < k) (h1 : (mNodeS k xs).2 ≤ 4398046511104) :
    Calls Try.prog 44 #[u, .int .i64 k] w fun e w' => e = .returned (.int .i64 (mNodeS k xs).2) ∧ SlR fp w' u (mNodeS k xs).1 ∧ Wr fp w w' := by
  obtain ⟨a, ca, rfl, g1, g2, g3⟩ := hu.open
  have H1 := Lib.hid h1
  clear h1
  go_enter Try.func44, Try.ntmps44
  go_wp2
  go_loopw [5, 1] (fun s5 s1 wr => ∃ (i : Nat) (m : Int), i ≤ xs.length ∧ Hid (m = (markL mNode k (xs.take i)).2) ∧ SlR fp wr (.slice a xs.length ca) (markT mNode k xs i) ∧ Wr fp w wr ∧ s5 = .int .i64 i ∧ s1 = .int .i64 m) (fun s5 _ _ => xs.length - (intOf s5).toNat)
  case atStart => exact ⟨0, k, by omega, Lib.hid (by simp [markL]), by rw [markT_zero]; exact hu, Wr.refl _ _, rfl, rfl⟩
  case round =>
    obtain ⟨i, m, hi, hm, hs, hW, rfl, rfl⟩ := hrel
    have HS := Lib.hid hs
    have HW := Lib.hid hW
    clear hs hW
    by_cases hlt : i < xs.length
    · obtain ⟨b, off, rfl, hb⟩ := g3 i hlt
      have hlt' : i < (markT mNode k xs i).length := by rw [markT_len]; exact hlt
      obtain ⟨cs, fq, hc, hr, hsub, hbm, hbn, hnq, hz, hput⟩ := HS.out.focus hnd hlt'
      have HP := Lib.hid hput
      rw [markT_at mNode k xs hlt] at hr
      obtain ⟨y, hy⟩ : ∃ y, y = xs[i] := ⟨_, rfl⟩
      rw [← hy] at hr
      have HY := Lib.hid hy
      have bd := markL_take mNode mNode_mono k xs (i + 1)
      have bd2 := markL_take mNode mNode_mono k xs i
      rw [markK_succ mNode k xs hlt, ← hm.out, ← hy] at bd
      rw [← hm.out] at bd2
      obtain ⟨q0, q1, q2, q3, q4, q5⟩ := y
      obtain ⟨vq5, fq5, hcs, hfq, hq0, hq1, hq2, hq3, hq4, hq5⟩ := rdNode_inv (cs := cs.toArray) q0 q1 q2 q3 q4 q5 (by simpa using hr)
      obtain rfl : cs = [.int .i64 q0, .int .i64 q1, .int .i64 q2, .int .i64 q3, .string q4, vq5] := by have := congrArg Array.toList hcs; simpa using this
      rw [hfq] at hsub hbn hnq HP hput hr
      clear hfq
      have z0 : wr.cell? ⟨b, off + i * 6, none⟩ = some (.int .i64 q0) := by simpa [Rd.n] using hc 0 _ rfl
      have z1 : wr.cell? ⟨b, off + i * 6 + 1, none⟩ = some (.int .i64 q1) := hc 1 _ rfl
      have z2 : wr.cell? ⟨b, off + i * 6 + 2, none⟩ = some (.int .i64 q2) := hc 2 _ rfl
      have z3 : wr.cell? ⟨b, off + i * 6 + 3, none⟩ = some (.int .i64 q3) := hc 3 _ rfl
      have z4 : wr.cell? ⟨b, off + i * 6 + 4, none⟩ = some (.string q4) := hc 4 _ rfl
      have z5 : wr.cell? ⟨b, off + i * 6 + 5, none⟩ = some (vq5) := hc 5 _ rfl
      have f0 : wr.frozen? ⟨b, off + i * 6, none⟩ = false := by simpa [Rd.n] using hz 0 (by decide)
      have f1 : wr.frozen? ⟨b, off + i * 6 + 1, none⟩ = false := hz 1 (by decide)
      have f2 : wr.frozen? ⟨b, off + i * 6 + 2, none⟩ = false := hz 2 (by decide)
      have f3 : wr.frozen? ⟨b, off + i * 6 + 3, none⟩ = false := hz 3 (by decide)
      have f4 : wr.frozen? ⟨b, off + i * 6 + 4, none⟩ = false := hz 4 (by decide)
      have bl := blk z0
      have m0 : 0 < m := by omega
      have em : (mNode m (q0, q1, q2, q3, q4, q5)).2 = (mIntS (m + 1 + 1 + 1 + 1 + 1) q5).2 := rfl
      rw [em] at bd
      have bq5 := mIntS_mono (m + 1 + 1 + 1 + 1 + 1) q5
      have m1 : (mIntS (m + 1 + 1 + 1 + 1 + 1) q5).2 ≤ 4398046511104 := by have h := H1.out; have e : (mNodeS k xs).2 = (markL mNode k xs).2 := rfl; omega
      have n0_1 := fun (W : World) (v : Value) => cell_setCell_ne (w := W) (b := b) (o := off + i * 6) (o' := off + i * 6 + 1) (v := v) (by omega)
      have n0_2 := fun (W : World) (v : Value) => cell_setCell_ne (w := W) (b := b) (o := off + i * 6) (o' := off + i * 6 + 2) (v := v) (by omega)
      have n0_3 := fun (W : World) (v : Value) => cell_setCell_ne (w := W) (b := b) (o := off + i * 6) (o' := off + i * 6 + 3) (v := v) (by omega)
      have n0_4 := fun (W : World) (v : Value) => cell_setCell_ne (w := W) (b := b) (o := off + i * 6) (o' := off + i * 6 + 4) (v := v) (by omega)
      have n0_5 := fun (W : World) (v : Value) => cell_setCell_ne (w := W) (b := b) (o := off + i * 6) (o' := off + i * 6 + 5) (v := v) (by omega)
      have n1_0 := fun (W : World) (v : Value) => cell_setCell_ne (w := W) (b := b) (o := off + i * 6 + 1) (o' := off + i * 6) (v := v) (by omega)
      have n1_2 := fun (W : World) (v : Value) => cell_setCell_ne (w := W) (b := b) (o := off + i * 6 + 1) (o' := off + i * 6 + 2) (v := v) (by omega)
      have n1_3 := fun (W : World) (v : Value) => cell_setCell_ne (w := W) (b := b) (o := off + i * 6 + 1) (o' := off + i * 6 + 3) (v := v) (by omega)
      have n1_4 := fun (W : World) (v : Value) => cell_setCell_ne (w := W) (b := b) (o := off + i * 6 + 1) (o' := off + i * 6 + 4) (v := v) (by omega)
      have n1_5 := fun (W : World) (v : Value) => cell_setCell_ne (w := W) (b := b) (o := off + i * 6 + 1) (o' := off + i * 6 + 5) (v := v) (by omega)
      have n2_0 := fun (W : World) (v : Value) => cell_setCell_ne (w := W) (b := b) (o := off + i * 6 + 2) (o' := off + i * 6) (v := v) (by omega)
      have n2_1 := fun (W : World) (v : Value) => cell_setCell_ne (w := W) (b := b) (o := off + i * 6 + 2) (o' := off + i * 6 + 1) (v := v) (by omega)
      have n2_3 := fun (W : World) (v : Value) => cell_setCell_ne (w := W) (b := b) (o := off + i * 6 + 2) (o' := off + i * 6 + 3) (v := v) (by omega)
      have n2_4 := fun (W : World) (v : Value) => cell_setCell_ne (w := W) (b := b) (o := off + i * 6 + 2) (o' := off + i * 6 + 4) (v := v) (by omega)
      have n2_5 := fun (W : World) (v : Value) => cell_setCell_ne (w := W) (b := b) (o := off + i * 6 + 2) (o' := off + i * 6 + 5) (v := v) (by omega)
      have n3_0 := fun (W : World) (v : Value) => cell_setCell_ne (w := W) (b := b) (o := off + i * 6 + 3) (o' := off + i * 6) (v := v) (by omega)
      have n3_1 := fun (W : World) (v : Value) => cell_setCell_ne (w := W) (b := b) (o := off + i * 6 + 3) (o' := off + i * 6 + 1) (v := v) (by omega)
      have n3_2 := fun (W : World) (v : Value) => cell_setCell_ne (w := W) (b := b) (o := off + i * 6 + 3) (o' := off + i * 6 + 2) (v := v) (by omega)
      have n3_4 := fun (W : World) (v : Value) => cell_setCell_ne (w := W) (b := b) (o := off + i * 6 + 3) (o' := off + i * 6 + 4) (v := v) (by omega)
      have n3_5 := fun (W : World) (v : Value) => cell_setCell_ne (w := W) (b := b) (o := off + i * 6 + 3) (o' := off + i * 6 + 5) (v := v) (by omega)
      have n4_0 := fun (W : World) (v : Value) => cell_setCell_ne (w := W) (b := b) (o := off + i * 6 + 4) (o' := off + i * 6) (v := v) (by omega)
      have n4_1 := fun (W : World) (v : Value) => cell_setCell_ne (w := W) (b := b) (o := off + i * 6 + 4) (o' := off + i * 6 + 1) (v := v) (by omega)
      have n4_2 := fun (W : World) (v : Value) => cell_setCell_ne (w := W) (b := b) (o := off + i * 6 + 4) (o' := off + i * 6 + 2) (v := v) (by omega)
      have n4_3 := fun (W : World) (v : Value) => cell_setCell_ne (w := W) (b := b) (o := off + i * 6 + 4) (o' := off + i * 6 + 3) (v := v) (by omega)
      have n4_5 := fun (W : World) (v : Value) => cell_setCell_ne (w := W) (b := b) (o := off + i * 6 + 4) (o' := off + i * 6 + 5) (v := v) (by omega)
      have fz := fun (W : World) (o o' : Nat) (v : Value) => (frozen_setCell' : (W.setCell ⟨b, o, none⟩ v).frozen? ⟨b, o', none⟩ = W.frozen? ⟨b, o', none⟩)
      have Hq0 := Lib.hid (wf_mark (y := m) (by omega) (by omega))
      have Hq1 := Lib.hid (wf_mark (y := m + 1) (by omega) (by omega))
      have Hq2 := Lib.hid (wf_mark (y := m + 1 + 1) (by omega) (by omega))
      have Hq3 := Lib.hid (wf_mark (y := m + 1 + 1 + 1) (by omega) (by omega))
      have Hq4 := Lib.hid (mtx_size (m + 1 + 1 + 1 + 1) (by omega))
      have N0 : (fq5).Nodup := by simpa only [List.nil_append, List.append_nil] using hnq
      have M0 : b ∉ fq5 := by simpa only [List.nil_append, List.append_nil] using hbn
      have uq5 := N0
      have dq5 : b ∉ fq5 := fun h => M0 (by simp [h])
      have Sq5 := Lib.hid hq5
      obtain ⟨aaq5, ccq5, rfl, -, -, -⟩ := hq5.open
      have Hdq5 := Lib.hid dq5
      have Huq5 := Lib.hid uq5
      clear dq5 uq5 M0 N0  hq5
      clear hc hz hput bd2 g3 em hy hr hcs hq0 hq1 hq2 hq3 hq4
      have Hbn := Lib.hid hbn
      have Hnq := Lib.hid hnq
      have Hsub := Lib.hid hsub
      clear hbn hnq hsub
      go_wp2_with fail
      refine (markText_any (m + 1 + 1 + 1 + 1) _ (by omega) (by omega)).mono ?_
      rintro e w4 ⟨rfl, x4, rfl⟩
      go_wp2_with fail
      refine (markIntS_any fq5 _ q5 (m + 1 + 1 + 1 + 1 + 1) _ ((SlR.wr Sq5.out (fp := [b]) (by repeat (first | with_reducible refine Wr.setCell ?_ (by simp) _ | with_reducible refine Wr.gr ?_ (Gr.ext (Gr.refl _) _) | exact Wr.refl _ _)) (by have := Hdq5.out; intro c hc hcb; simp at hcb; subst hcb; exact this hc))) Huq5.out (by omega) (by show (mIntS (m + 1 + 1 + 1 + 1 + 1) q5).2 ≤ _; omega)).mono ?_
      rintro e y5 ⟨rfl, t5, r5⟩
      have T5 := Lib.hid t5
      have R5 := Lib.hid r5
      clear t5 r5
      have F5 := Lib.hid (Foc.inner (b := b) (lo := off + i * Rd.n GNode) (n := Rd.n GNode) (fq := ([] ++ ([] ++ ([] ++ ([] ++ ([] ++ fq5)))))) (w := wr) (by repeat (first | with_reducible refine Foc.set ?_ (by simp [Rd.n] <;> omega) (by simp [Rd.n] <;> omega) _ | with_reducible refine Foc.gr ?_ bl (Gr.ext (Gr.refl _) _) | exact Foc.refl _ _ _ _ _)) bl R5.out (by intro c hc; simp [hc]) Hdq5.out)
      have Sq5x5 := T5
      have e5 := R5.out.block b (Nat.lt_of_lt_of_le bl (Foc.wr (b := b) (lo := off + i * Rd.n GNode) (n := Rd.n GNode) (fq := ([] ++ ([] ++ ([] ++ ([] ++ ([] ++ fq5)))))) (w := wr) (by repeat (first | with_reducible refine Foc.set ?_ (by simp [Rd.n] <;> omega) (by simp [Rd.n] <;> omega) _ | with_reducible refine Foc.gr ?_ bl (Gr.ext (Gr.refl _) _) | exact Foc.refl _ _ _ _ _))).size) Hdq5.out
      have c5 := fun (o : Nat) => World.cell?_of_block (a := ⟨b, o, none⟩) e5
      have z0x5 : y5.cell? ⟨b, off + i * 6, none⟩ = some (.int .i64 (m)) := (c5 _).trans (by go_simp)
      have z1x5 : y5.cell? ⟨b, off + i * 6 + 1, none⟩ = some (.int .i64 (m + 1)) := (c5 _).trans (by go_simp)
      have z2x5 : y5.cell? ⟨b, off + i * 6 + 2, none⟩ = some (.int .i64 (m + 1 + 1)) := (c5 _).trans (by go_simp)
      have z3x5 : y5.cell? ⟨b, off + i * 6 + 3, none⟩ = some (.int .i64 (m + 1 + 1 + 1)) := (c5 _).trans (by go_simp)
      have z4x5 : y5.cell? ⟨b, off + i * 6 + 4, none⟩ = some (.string (mtx (m + 1 + 1 + 1 + 1))) := (c5 _).trans (by go_simp)
      have z5x5 : y5.cell? ⟨b, off + i * 6 + 5, none⟩ = some (.slice aaq5 q5.length ccq5) := (c5 _).trans (by go_simp)
      have s5 := R5.out.size
      clear e5 c5 z0 z1 z2 z3 z4 z5
      clear fz n0_1 n0_2 n0_3 n0_4 n0_5 n1_0 n1_2 n1_3 n1_4 n1_5 n2_0 n2_1 n2_3 n2_4 n2_5 n3_0 n3_1 n3_2 n3_4 n3_5 n4_0 n4_1 n4_2 n4_3 n4_5 f0 f1 f2 f3 f4
      go_wp2_with fail
      refine ⟨⟨i + 1, (mIntS (m + 1 + 1 + 1 + 1 + 1) q5).2, by omega, Lib.hid ?_, ?_, ?_, by go_num, rfl⟩, by simp [intOf]; omega⟩
      · rw [markK_succ mNode k xs hlt, ← hm.out, ← HY.out]; rfl
      · rw [markT_succ mNode k xs hlt, ← hm.out, ← HY.out]
        refine HP.out _ [.int .i64 (m), .int .i64 (m + 1), .int .i64 (m + 1 + 1), .int .i64 (m + 1 + 1 + 1), .string (mtx (m + 1 + 1 + 1 + 1)), .slice aaq5 q5.length ccq5] (mNode m (q0, q1, q2, q3, q4, q5)).1 (by repeat (first | with_reducible refine Foc.set ?_ (by simp [Rd.n] <;> omega) (by simp [Rd.n] <;> omega) _ | with_reducible refine Foc.gr ?_ bl (Gr.ext (Gr.refl _) _) | exact F5.out)) (fun j v hj => ?_) (rdNode_mk (m) (m + 1) (m + 1 + 1) (m + 1 + 1 + 1) (mtx (m + 1 + 1 + 1 + 1)) ((mIntS (m + 1 + 1 + 1 + 1 + 1) q5).1) Hq0.out Hq1.out Hq2.out Hq3.out Hq4.out (SlR.wr Sq5x5.out (fp := [b]) (by repeat (first | with_reducible refine Wr.setCell ?_ (by simp) _ | with_reducible refine Wr.gr ?_ (Gr.ext (Gr.refl _) _) | exact Wr.refl _ _)) (by have := Hdq5.out; intro c hc hcb; simp at hcb; subst hcb; exact this hc)))
        have en : off + i * Rd.n GNode = off + i * 6 := rfl
        rw [en]
        match j, hj with
        | 0, hj => obtain rfl := Option.some.inj hj; exact z0x5
        | 1, hj => obtain rfl := Option.some.inj hj; exact z1x5
        | 2, hj => obtain rfl := Option.some.inj hj; exact z2x5
        | 3, hj => obtain rfl := Option.some.inj hj; exact z3x5
        | 4, hj => obtain rfl := Option.some.inj hj; exact z4x5
        | 5, hj => obtain rfl := Option.some.inj hj; exact z5x5
      · exact HW.out.trans (Wr.sub (Foc.wr (b := b) (lo := off + i * Rd.n GNode) (n := Rd.n GNode) (fq := ([] ++ ([] ++ ([] ++ ([] ++ ([] ++ fq5)))))) (by repeat (first | with_reducible refine Foc.set ?_ (by simp [Rd.n] <;> omega) (by simp [Rd.n] <;> omega) _ | with_reducible refine Foc.gr ?_ bl (Gr.ext (Gr.refl _) _) | exact F5.out))) (fun c hc => by
          rcases List.mem_cons.1 hc with rfl | hc
          · exact hbm
          · exact Hsub.out c hc))
    · have hk2 : i = xs.length := by omega
      subst hk2
      have hs2 := HS.out
      rw [markT_all] at hs2
      have hm2 := hm.out
      rw [List.take_length] at hm2
      have HS2 := Lib.hid hs2
      have HM2 := Lib.hid hm2
      clear hs2 hm2 HS hm
      go_wp2
      go_ret
      exact ⟨ret_int HM2.out, HS2.out, HW.out⟩

/-- The marks of a value. -/
def vTree (k : Int) : GTree → GTree × Int
  | q0 => ((mNodeS (k) q0).1, (mNodeS (k) q0).2)
theorem vTree_bd (k : Int) (x : GTree) : k ≤ (vTree k x).2 ∧ (vTree k x).2 ≤ k + 16 * (1 + wtTree x) := by
  obtain ⟨q0, rfl⟩ : ∃ yy, yy = x := ⟨_, rfl⟩
  have bq0 := mNodeS_bd (k) q0
  have hw : wtTree q0 = (wtNodeS q0) := rfl
  simp only [vTree] at *
  omega

set_option maxHeartbeats 1000000 in
theorem markTree_any (fp : List Nat) (cs : Array Value) (x : GTree) (k : Int) (w : World) (hx : Rd.rd fp w cs.toList x) (hnd : fp.Nodup) (h0 : 0 < k) (h1 : (vTree k x).2 ≤ 4398046511104) :
    Calls Try.prog 15 #[.agg cs, .int .i64 k] w fun e w' => e = .returned (.int .i64 (vTree k x).2) ∧ Rd.rd fp w' cs.toList (vTree k x).1 ∧ Wr fp w w' := by
  have hlt := Rd.lt hx
  obtain ⟨q0, rfl⟩ : ∃ yy, yy = x := ⟨_, rfl⟩
  obtain ⟨vq0, fq0, rfl, hfq, hq0⟩ := rdTree_inv q0 hx
  rw [hfq] at hlt hnd hx ⊢
  clear hfq
  have m1 : (mNodeS (k) q0).2 ≤ 4398046511104 := h1
  have N0 : (fq0).Nodup := by simpa only [List.nil_append, List.append_nil] using hnd
  have L0 : ∀ c ∈ (fq0), c < w.heap.size := by simpa only [List.nil_append, List.append_nil] using hlt
  have uq0 := N0
  have Hlq0 := Lib.hid (fun c (h : c ∈ fq0) => L0 c (by simp [h]))
  have Huq0 := Lib.hid uq0
  have bq0 := mNodeS_mono (k) q0
  have Sq0 := Lib.hid hq0
  obtain ⟨aq0, cq0, rfl, -, -, -⟩ := hq0.open
  clear hx hlt h1 hnd L0  hq0 uq0  N0
  go_enter Try.func15, Try.ntmps15
  go_wp2_with fail
  refine (markNodeS_any fq0 _ q0 (k) _ (Sq0.out.gr (by repeat (first | exact Gr.refl _ | apply Gr.ext | apply Gr.alloc | apply Gr.drew))) Huq0.out (by omega) (by show (mNodeS (k) q0).2 ≤ _; omega)).mono ?_
  rintro e y0 ⟨rfl, t0, r0⟩
  have T0 := Lib.hid t0
  have R0 := Lib.hid r0
  clear t0 r0
  have W0 := Lib.hid ((Gr.toWr (by exact (by repeat (first | exact Gr.refl _ | apply Gr.ext | apply Gr.alloc | apply Gr.drew)) : Gr w (w.alloc (.cells #[.slice aq0 q0.length cq0] 38))) (fq0)).trans (R0.out.sub (fun c hc => by simp [hc])))
  go_wp2_with fail
  go_ret
  refine ⟨rfl, ?_, W0.out.sub (fun c hc => by simpa using hc)⟩
  have hl := rdTree_mk ((mNodeS (k) q0).1) T0.out
  exact hl

end Go.Proofs.Ytmfcagcanhmdbaa
