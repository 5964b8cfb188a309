/- Contracts of the functions that mark and look at marks: Expr*:m. Made by mk_mark.py. Contracts of the functions that mark and look at marks: Equation*:m. Made by mk_mark.py. No condition. -/
import Derived.Test.YtbfmeiooeaaibaaGreatXMark
import Derived.Test.YtbfmeiooeaaibaaGreatFamGramB
import Derived.Test.YtbfmeiooeaaibaaGreatFamGramC
namespace Go.Proofs.YtbfmeiooeaaibaaGreat
open Go.RowKit
set_option linter.unusedVariables false

/-- The marks of an expression. -/
def mE : (d : Nat) → Int → GE d → GE d × Int
  | 0, _, x => PEmpty.elim x
  | d + 1, k, x => (fun y : GExpr d => (((k, k + 1, k + 1 + 1, k + 1 + 1 + 1, mtx (k + 1 + 1 + 1 + 1), mtx (k + 1 + 1 + 1 + 1 + 1), (markL (mE d) (k + 1 + 1 + 1 + 1 + 1 + 1) y.2.2.2.2.2.2).1) : GExpr d), (markL (mE d) (k + 1 + 1 + 1 + 1 + 1 + 1) y.2.2.2.2.2.2).2)) x
theorem mE_bd : (d : Nat) → ∀ (k : Int) (x : GE d), k ≤ (mE d k x).2 ∧ (mE d k x).2 ≤ k + 16 * (1 + wtE d x)
  | 0 => fun k x => PEmpty.elim x
  | d + 1 => fun k x => by
    have b := markL_bd (mE d) (wtE d) (mE_bd d) (show GExpr d from x).2.2.2.2.2.2 (k + 1 + 1 + 1 + 1 + 1 + 1)
    have e : (mE (d + 1) k x).2 = (markL (mE d) (k + 1 + 1 + 1 + 1 + 1 + 1) (show GExpr d from x).2.2.2.2.2.2).2 := rfl
    have hw : wtE (d + 1) x = (show GExpr d from x).2.2.2.2.1.size + (show GExpr d from x).2.2.2.2.2.1.size + wtL (wtE d) (show GExpr d from x).2.2.2.2.2.2 := rfl
    rw [e, hw]
    omega
theorem mE_mono (d : Nat) (k : Int) (x : GE d) : k ≤ (mE d k x).2 := (mE_bd d k x).1
def mExprS {d : Nat} (k : Int) (x : List (GE d)) : List (GE d) × Int := markL (mE d) k x
theorem mExprS_len {d : Nat} (k : Int) (x : List (GE d)) : (mExprS k x).1.length = x.length := markL_len _ _ _
theorem mExprS_bd {d : Nat} (k : Int) (x : List (GE d)) : k ≤ (mExprS k x).2 ∧ (mExprS k x).2 ≤ k + 16 * wtExprS x := by
  have := markL_bd (mE d) (wtE d) (mE_bd d) x k
  unfold mExprS wtExprS
  exact this
theorem mExprS_mono {d : Nat} (k : Int) (x : List (GE d)) : k ≤ (mExprS k x).2 := (mExprS_bd k x).1

set_option maxHeartbeats 4000000 in
theorem markExprS_of {d : Nat} (hE : ∀ d1, d = d1 + 1 → ∀ (fp : List Nat) (u : Value) (xs : List (GE d1)) (k : Int) (w : World) (hu : SlR fp w u xs) (hnd : fp.Nodup) (h0 : 0 < k) (h1 : (mExprS k xs).2 ≤ 4398046511104), Calls Tryz.prog 133 #[u, .int .i64 k] w fun e w' => e = .returned (.int .i64 (mExprS k xs).2) ∧ SlR fp w' u (mExprS k xs).1 ∧ Wr fp w w') (fp : List Nat) (u : Value) (xs : List (GE d)) (k : Int) (w : World) (hu : SlR fp w u xs) (hnd : fp.Nodup) (h0 : 0 < k) (h1 : (mExprS k xs).2 ≤ 4398046511104) :
    Calls Tryz.prog 133 #[u, .int .i64 k] w fun e w' => e = .returned (.int .i64 (mExprS k xs).2) ∧ SlR fp w' u (mExprS k xs).1 ∧ Wr fp w w' := by
  obtain ⟨a, ca, rfl, g1, g2, g3⟩ := hu.open
  have H1 := Lib.hid h1
  clear h1
  go_enter Tryz.func133, Tryz.ntmps133
  go_wp2
  go_loopw [5, 1] (fun s5 s1 wr => ∃ (i : Nat) (m : Int), i ≤ xs.length ∧ Hid (m = (markL (mE (d)) k (xs.take i)).2) ∧ SlR fp wr (.slice a xs.length ca) (markT (mE (d)) k xs i) ∧ Wr fp w wr ∧ s5 = .int .i64 i ∧ s1 = .int .i64 m) (fun s5 _ _ => xs.length - (intOf s5).toNat)
  case atStart => exact ⟨0, k, by omega, Lib.hid (by simp [markL]), by rw [markT_zero]; exact hu, Wr.refl _ _, rfl, rfl⟩
  case round =>
    obtain ⟨i, m, hi, hm, hs, hW, rfl, rfl⟩ := hrel
    have HS := Lib.hid hs
    have HW := Lib.hid hW
    clear hs hW
    by_cases hlt : i < xs.length
    · obtain ⟨d1, rfl⟩ : ∃ e, d = e + 1 := by
        cases d with
        | zero => exact PEmpty.elim (xs[i])
        | succ e => exact ⟨e, rfl⟩
      obtain ⟨b, off, rfl, hb⟩ := g3 i hlt
      have hlt' : i < (markT (mE (d1 + 1)) k xs i).length := by rw [markT_len]; exact hlt
      obtain ⟨cs, fq, hc, hr, hsub, hbm, hbn, hnq, hz, hput⟩ := HS.out.focus hnd hlt'
      have HP := Lib.hid hput
      rw [markT_at (mE (d1 + 1)) k xs hlt] at hr
      obtain ⟨y, hy⟩ : ∃ y, y = xs[i] := ⟨_, rfl⟩
      rw [← hy] at hr
      have HY := Lib.hid hy
      have bd := markL_take (mE (d1 + 1)) (mE_mono (d1 + 1)) k xs (i + 1)
      have bd2 := markL_take (mE (d1 + 1)) (mE_mono (d1 + 1)) k xs i
      rw [markK_succ (mE (d1 + 1)) k xs hlt, ← hm.out, ← hy] at bd
      rw [← hm.out] at bd2
      obtain ⟨q0, q1, q2, q3, q4, q5, q6⟩ := y
      obtain ⟨vq6, fq6, hcs, hfq, hq0, hq1, hq2, hq3, hq4, hq5, hq6⟩ := rdExpr_inv (cs := cs.toArray) q0 q1 q2 q3 q4 q5 q6 (show Rd.rd (α := GExpr d1) fq wr cs.toArray.toList _ from hr)
      obtain rfl : cs = [.int .i64 q0, .int .i64 q1, .int .i64 q2, .int .i64 q3, .string q4, .string q5, vq6] := by have := congrArg Array.toList hcs; simpa using this
      rw [hfq] at hsub hbn hnq HP hput hr
      clear hfq
      have z0 : wr.cell? ⟨b, off + i * 7, none⟩ = some (.int .i64 q0) := by simpa [Rd.n] using hc 0 _ rfl
      have z1 : wr.cell? ⟨b, off + i * 7 + 1, none⟩ = some (.int .i64 q1) := hc 1 _ rfl
      have z2 : wr.cell? ⟨b, off + i * 7 + 2, none⟩ = some (.int .i64 q2) := hc 2 _ rfl
      have z3 : wr.cell? ⟨b, off + i * 7 + 3, none⟩ = some (.int .i64 q3) := hc 3 _ rfl
      have z4 : wr.cell? ⟨b, off + i * 7 + 4, none⟩ = some (.string q4) := hc 4 _ rfl
      have z5 : wr.cell? ⟨b, off + i * 7 + 5, none⟩ = some (.string q5) := hc 5 _ rfl
      have z6 : wr.cell? ⟨b, off + i * 7 + 6, none⟩ = some (vq6) := hc 6 _ rfl
      have f0 : wr.frozen? ⟨b, off + i * 7, none⟩ = false := by simpa [Rd.n] using hz 0 (by show _ < 7; decide)
      have f1 : wr.frozen? ⟨b, off + i * 7 + 1, none⟩ = false := hz 1 (by show _ < 7; decide)
      have f2 : wr.frozen? ⟨b, off + i * 7 + 2, none⟩ = false := hz 2 (by show _ < 7; decide)
      have f3 : wr.frozen? ⟨b, off + i * 7 + 3, none⟩ = false := hz 3 (by show _ < 7; decide)
      have f4 : wr.frozen? ⟨b, off + i * 7 + 4, none⟩ = false := hz 4 (by show _ < 7; decide)
      have f5 : wr.frozen? ⟨b, off + i * 7 + 5, none⟩ = false := hz 5 (by show _ < 7; decide)
      have bl := blk z0
      have m0 : 0 < m := by omega
      have em : ((mE (d1 + 1)) m (q0, q1, q2, q3, q4, q5, q6)).2 = (mExprS (m + 1 + 1 + 1 + 1 + 1 + 1) q6).2 := rfl
      rw [em] at bd
      have bq6 := mExprS_mono (m + 1 + 1 + 1 + 1 + 1 + 1) q6
      have m1 : (mExprS (m + 1 + 1 + 1 + 1 + 1 + 1) q6).2 ≤ 4398046511104 := by have h := H1.out; have e : (mExprS k xs).2 = (markL (mE (d1 + 1)) k xs).2 := rfl; omega
      have n0_1 := fun (W : World) (v : Value) => cell_setCell_ne (w := W) (b := b) (o := off + i * 7) (o' := off + i * 7 + 1) (v := v) (by omega)
      have n0_2 := fun (W : World) (v : Value) => cell_setCell_ne (w := W) (b := b) (o := off + i * 7) (o' := off + i * 7 + 2) (v := v) (by omega)
      have n0_3 := fun (W : World) (v : Value) => cell_setCell_ne (w := W) (b := b) (o := off + i * 7) (o' := off + i * 7 + 3) (v := v) (by omega)
      have n0_4 := fun (W : World) (v : Value) => cell_setCell_ne (w := W) (b := b) (o := off + i * 7) (o' := off + i * 7 + 4) (v := v) (by omega)
      have n0_5 := fun (W : World) (v : Value) => cell_setCell_ne (w := W) (b := b) (o := off + i * 7) (o' := off + i * 7 + 5) (v := v) (by omega)
      have n0_6 := fun (W : World) (v : Value) => cell_setCell_ne (w := W) (b := b) (o := off + i * 7) (o' := off + i * 7 + 6) (v := v) (by omega)
      have n1_0 := fun (W : World) (v : Value) => cell_setCell_ne (w := W) (b := b) (o := off + i * 7 + 1) (o' := off + i * 7) (v := v) (by omega)
      have n1_2 := fun (W : World) (v : Value) => cell_setCell_ne (w := W) (b := b) (o := off + i * 7 + 1) (o' := off + i * 7 + 2) (v := v) (by omega)
      have n1_3 := fun (W : World) (v : Value) => cell_setCell_ne (w := W) (b := b) (o := off + i * 7 + 1) (o' := off + i * 7 + 3) (v := v) (by omega)
      have n1_4 := fun (W : World) (v : Value) => cell_setCell_ne (w := W) (b := b) (o := off + i * 7 + 1) (o' := off + i * 7 + 4) (v := v) (by omega)
      have n1_5 := fun (W : World) (v : Value) => cell_setCell_ne (w := W) (b := b) (o := off + i * 7 + 1) (o' := off + i * 7 + 5) (v := v) (by omega)
      have n1_6 := fun (W : World) (v : Value) => cell_setCell_ne (w := W) (b := b) (o := off + i * 7 + 1) (o' := off + i * 7 + 6) (v := v) (by omega)
      have n2_0 := fun (W : World) (v : Value) => cell_setCell_ne (w := W) (b := b) (o := off + i * 7 + 2) (o' := off + i * 7) (v := v) (by omega)
      have n2_1 := fun (W : World) (v : Value) => cell_setCell_ne (w := W) (b := b) (o := off + i * 7 + 2) (o' := off + i * 7 + 1) (v := v) (by omega)
      have n2_3 := fun (W : World) (v : Value) => cell_setCell_ne (w := W) (b := b) (o := off + i * 7 + 2) (o' := off + i * 7 + 3) (v := v) (by omega)
      have n2_4 := fun (W : World) (v : Value) => cell_setCell_ne (w := W) (b := b) (o := off + i * 7 + 2) (o' := off + i * 7 + 4) (v := v) (by omega)
      have n2_5 := fun (W : World) (v : Value) => cell_setCell_ne (w := W) (b := b) (o := off + i * 7 + 2) (o' := off + i * 7 + 5) (v := v) (by omega)
      have n2_6 := fun (W : World) (v : Value) => cell_setCell_ne (w := W) (b := b) (o := off + i * 7 + 2) (o' := off + i * 7 + 6) (v := v) (by omega)
      have n3_0 := fun (W : World) (v : Value) => cell_setCell_ne (w := W) (b := b) (o := off + i * 7 + 3) (o' := off + i * 7) (v := v) (by omega)
      have n3_1 := fun (W : World) (v : Value) => cell_setCell_ne (w := W) (b := b) (o := off + i * 7 + 3) (o' := off + i * 7 + 1) (v := v) (by omega)
      have n3_2 := fun (W : World) (v : Value) => cell_setCell_ne (w := W) (b := b) (o := off + i * 7 + 3) (o' := off + i * 7 + 2) (v := v) (by omega)
      have n3_4 := fun (W : World) (v : Value) => cell_setCell_ne (w := W) (b := b) (o := off + i * 7 + 3) (o' := off + i * 7 + 4) (v := v) (by omega)
      have n3_5 := fun (W : World) (v : Value) => cell_setCell_ne (w := W) (b := b) (o := off + i * 7 + 3) (o' := off + i * 7 + 5) (v := v) (by omega)
      have n3_6 := fun (W : World) (v : Value) => cell_setCell_ne (w := W) (b := b) (o := off + i * 7 + 3) (o' := off + i * 7 + 6) (v := v) (by omega)
      have n4_0 := fun (W : World) (v : Value) => cell_setCell_ne (w := W) (b := b) (o := off + i * 7 + 4) (o' := off + i * 7) (v := v) (by omega)
      have n4_1 := fun (W : World) (v : Value) => cell_setCell_ne (w := W) (b := b) (o := off + i * 7 + 4) (o' := off + i * 7 + 1) (v := v) (by omega)
      have n4_2 := fun (W : World) (v : Value) => cell_setCell_ne (w := W) (b := b) (o := off + i * 7 + 4) (o' := off + i * 7 + 2) (v := v) (by omega)
      have n4_3 := fun (W : World) (v : Value) => cell_setCell_ne (w := W) (b := b) (o := off + i * 7 + 4) (o' := off + i * 7 + 3) (v := v) (by omega)
      have n4_5 := fun (W : World) (v : Value) => cell_setCell_ne (w := W) (b := b) (o := off + i * 7 + 4) (o' := off + i * 7 + 5) (v := v) (by omega)
      have n4_6 := fun (W : World) (v : Value) => cell_setCell_ne (w := W) (b := b) (o := off + i * 7 + 4) (o' := off + i * 7 + 6) (v := v) (by omega)
      have n5_0 := fun (W : World) (v : Value) => cell_setCell_ne (w := W) (b := b) (o := off + i * 7 + 5) (o' := off + i * 7) (v := v) (by omega)
      have n5_1 := fun (W : World) (v : Value) => cell_setCell_ne (w := W) (b := b) (o := off + i * 7 + 5) (o' := off + i * 7 + 1) (v := v) (by omega)
      have n5_2 := fun (W : World) (v : Value) => cell_setCell_ne (w := W) (b := b) (o := off + i * 7 + 5) (o' := off + i * 7 + 2) (v := v) (by omega)
      have n5_3 := fun (W : World) (v : Value) => cell_setCell_ne (w := W) (b := b) (o := off + i * 7 + 5) (o' := off + i * 7 + 3) (v := v) (by omega)
      have n5_4 := fun (W : World) (v : Value) => cell_setCell_ne (w := W) (b := b) (o := off + i * 7 + 5) (o' := off + i * 7 + 4) (v := v) (by omega)
      have n5_6 := fun (W : World) (v : Value) => cell_setCell_ne (w := W) (b := b) (o := off + i * 7 + 5) (o' := off + i * 7 + 6) (v := v) (by omega)
      have fz := fun (W : World) (o o' : Nat) (v : Value) => (frozen_setCell' : (W.setCell ⟨b, o, none⟩ v).frozen? ⟨b, o', none⟩ = W.frozen? ⟨b, o', none⟩)
      have Hq0 := Lib.hid (wf_mark (y := m) (by omega) (by omega))
      have Hq1 := Lib.hid (wf_mark (y := m + 1) (by omega) (by omega))
      have Hq2 := Lib.hid (wf_mark (y := m + 1 + 1) (by omega) (by omega))
      have Hq3 := Lib.hid (wf_mark (y := m + 1 + 1 + 1) (by omega) (by omega))
      have Hq4 := Lib.hid (mtx_size (m + 1 + 1 + 1 + 1) (by omega))
      have Hq5 := Lib.hid (mtx_size (m + 1 + 1 + 1 + 1 + 1) (by omega))
      have N0 : (fq6).Nodup := by simpa only [List.nil_append, List.append_nil] using hnq
      have M0 : b ∉ fq6 := by simpa only [List.nil_append, List.append_nil] using hbn
      have uq6 := N0
      have dq6 : b ∉ fq6 := fun h => M0 (by simp [h])
      have Sq6 := Lib.hid hq6
      obtain ⟨aaq6, ccq6, rfl, -, -, -⟩ := hq6.open
      have Hdq6 := Lib.hid dq6
      have Huq6 := Lib.hid uq6
      clear dq6 uq6 M0 N0  hq6
      clear hc hz hput bd2 g3 em hy hr hcs hq0 hq1 hq2 hq3 hq4 hq5
      have Hbn := Lib.hid hbn
      have Hnq := Lib.hid hnq
      have Hsub := Lib.hid hsub
      clear hbn hnq hsub
      go_wp2_with fail
      refine (markText_any (m + 1 + 1 + 1 + 1) _ (by omega) (by omega)).mono ?_
      rintro e w4 ⟨rfl, x4, rfl⟩
      go_wp2_with fail
      refine (markText_any (m + 1 + 1 + 1 + 1 + 1) _ (by omega) (by omega)).mono ?_
      rintro e w5 ⟨rfl, x5, rfl⟩
      go_wp2_with fail
      refine (hE d1 rfl fq6 _ q6 (m + 1 + 1 + 1 + 1 + 1 + 1) _ ((SlR.wr Sq6.out (fp := [b]) (by repeat (first | with_reducible refine Wr.setCell ?_ (by simp) _ | with_reducible refine Wr.gr ?_ (Gr.ext (Gr.refl _) _) | exact Wr.refl _ _)) (by have := Hdq6.out; intro c hc hcb; simp at hcb; subst hcb; exact this hc))) Huq6.out (by omega) (by show (mExprS (m + 1 + 1 + 1 + 1 + 1 + 1) q6).2 ≤ _; omega)).mono ?_
      rintro e y6 ⟨rfl, t6, r6⟩
      have T6 := Lib.hid t6
      have R6 := Lib.hid r6
      clear t6 r6
      have F6 := Lib.hid (Foc.inner (b := b) (lo := off + i * Rd.n (GE (d1 + 1))) (n := Rd.n (GE (d1 + 1))) (fq := ([] ++ ([] ++ ([] ++ ([] ++ ([] ++ ([] ++ fq6))))))) (w := wr) (by repeat (first | with_reducible refine Foc.set ?_ (by simp [Rd.n] <;> omega) (by simp [Rd.n] <;> omega) _ | with_reducible refine Foc.gr ?_ bl (Gr.ext (Gr.refl _) _) | exact Foc.refl _ _ _ _ _)) bl R6.out (by intro c hc; simp [hc]) Hdq6.out)
      have Sq6x6 := T6
      have e6 := R6.out.block b (Nat.lt_of_lt_of_le bl (Foc.wr (b := b) (lo := off + i * Rd.n (GE (d1 + 1))) (n := Rd.n (GE (d1 + 1))) (fq := ([] ++ ([] ++ ([] ++ ([] ++ ([] ++ ([] ++ fq6))))))) (w := wr) (by repeat (first | with_reducible refine Foc.set ?_ (by simp [Rd.n] <;> omega) (by simp [Rd.n] <;> omega) _ | with_reducible refine Foc.gr ?_ bl (Gr.ext (Gr.refl _) _) | exact Foc.refl _ _ _ _ _))).size) Hdq6.out
      have c6 := fun (o : Nat) => World.cell?_of_block (a := ⟨b, o, none⟩) e6
      have z0x6 : y6.cell? ⟨b, off + i * 7, none⟩ = some (.int .i64 (m)) := (c6 _).trans (by go_simp)
      have z1x6 : y6.cell? ⟨b, off + i * 7 + 1, none⟩ = some (.int .i64 (m + 1)) := (c6 _).trans (by go_simp)
      have z2x6 : y6.cell? ⟨b, off + i * 7 + 2, none⟩ = some (.int .i64 (m + 1 + 1)) := (c6 _).trans (by go_simp)
      have z3x6 : y6.cell? ⟨b, off + i * 7 + 3, none⟩ = some (.int .i64 (m + 1 + 1 + 1)) := (c6 _).trans (by go_simp)
      have z4x6 : y6.cell? ⟨b, off + i * 7 + 4, none⟩ = some (.string (mtx (m + 1 + 1 + 1 + 1))) := (c6 _).trans (by go_simp)
      have z5x6 : y6.cell? ⟨b, off + i * 7 + 5, none⟩ = some (.string (mtx (m + 1 + 1 + 1 + 1 + 1))) := (c6 _).trans (by go_simp)
      have z6x6 : y6.cell? ⟨b, off + i * 7 + 6, none⟩ = some (.slice aaq6 q6.length ccq6) := (c6 _).trans (by go_simp)
      have s6 := R6.out.size
      clear e6 c6 z0 z1 z2 z3 z4 z5 z6
      clear fz n0_1 n0_2 n0_3 n0_4 n0_5 n0_6 n1_0 n1_2 n1_3 n1_4 n1_5 n1_6 n2_0 n2_1 n2_3 n2_4 n2_5 n2_6 n3_0 n3_1 n3_2 n3_4 n3_5 n3_6 n4_0 n4_1 n4_2 n4_3 n4_5 n4_6 n5_0 n5_1 n5_2 n5_3 n5_4 n5_6 f0 f1 f2 f3 f4 f5
      go_wp2_with fail
      refine ⟨⟨i + 1, (mExprS (m + 1 + 1 + 1 + 1 + 1 + 1) q6).2, by omega, Lib.hid ?_, ?_, ?_, by go_num, rfl⟩, by simp [intOf]; omega⟩
      · rw [markK_succ (mE (d1 + 1)) k xs hlt, ← hm.out, ← HY.out]; rfl
      · rw [markT_succ (mE (d1 + 1)) k xs hlt, ← hm.out, ← HY.out]
        refine HP.out _ [.int .i64 (m), .int .i64 (m + 1), .int .i64 (m + 1 + 1), .int .i64 (m + 1 + 1 + 1), .string (mtx (m + 1 + 1 + 1 + 1)), .string (mtx (m + 1 + 1 + 1 + 1 + 1)), .slice aaq6 q6.length ccq6] ((mE (d1 + 1)) m (q0, q1, q2, q3, q4, q5, q6)).1 (by repeat (first | with_reducible refine Foc.set ?_ (by simp [Rd.n] <;> omega) (by simp [Rd.n] <;> omega) _ | with_reducible refine Foc.gr ?_ bl (Gr.ext (Gr.refl _) _) | exact F6.out)) (fun j v hj => ?_) (rdExpr_mk (m) (m + 1) (m + 1 + 1) (m + 1 + 1 + 1) (mtx (m + 1 + 1 + 1 + 1)) (mtx (m + 1 + 1 + 1 + 1 + 1)) ((mExprS (m + 1 + 1 + 1 + 1 + 1 + 1) q6).1) Hq0.out Hq1.out Hq2.out Hq3.out Hq4.out Hq5.out (SlR.wr Sq6x6.out (fp := [b]) (by repeat (first | with_reducible refine Wr.setCell ?_ (by simp) _ | with_reducible refine Wr.gr ?_ (Gr.ext (Gr.refl _) _) | exact Wr.refl _ _)) (by have := Hdq6.out; intro c hc hcb; simp at hcb; subst hcb; exact this hc)))
        have en : off + i * Rd.n (GE (d1 + 1)) = off + i * 7 := rfl
        rw [en]
        match j, hj with
        | 0, hj => obtain rfl := Option.some.inj hj; exact z0x6
        | 1, hj => obtain rfl := Option.some.inj hj; exact z1x6
        | 2, hj => obtain rfl := Option.some.inj hj; exact z2x6
        | 3, hj => obtain rfl := Option.some.inj hj; exact z3x6
        | 4, hj => obtain rfl := Option.some.inj hj; exact z4x6
        | 5, hj => obtain rfl := Option.some.inj hj; exact z5x6
        | 6, hj => obtain rfl := Option.some.inj hj; exact z6x6
      · exact HW.out.trans (Wr.sub (Foc.wr (b := b) (lo := off + i * Rd.n (GE (d1 + 1))) (n := Rd.n (GE (d1 + 1))) (fq := ([] ++ ([] ++ ([] ++ ([] ++ ([] ++ ([] ++ fq6))))))) (by repeat (first | with_reducible refine Foc.set ?_ (by simp [Rd.n] <;> omega) (by simp [Rd.n] <;> omega) _ | with_reducible refine Foc.gr ?_ bl (Gr.ext (Gr.refl _) _) | exact F6.out))) (fun c hc => by
          rcases List.mem_cons.1 hc with rfl | hc
          · exact hbm
          · exact Hsub.out c hc))
    · have hk2 : i = xs.length := by omega
      subst hk2
      have hs2 := HS.out
      rw [markT_all] at hs2
      have hm2 := hm.out
      rw [List.take_length] at hm2
      have HS2 := Lib.hid hs2
      have HM2 := Lib.hid hm2
      clear hs2 hm2 HS hm
      go_wp2
      go_ret
      exact ⟨ret_int HM2.out, HS2.out, HW.out⟩

theorem markExprS_all : (d : Nat) → ∀ (fp : List Nat) (u : Value) (xs : List (GE d)) (k : Int) (w : World) (hu : SlR fp w u xs) (hnd : fp.Nodup) (h0 : 0 < k) (h1 : (mExprS k xs).2 ≤ 4398046511104), Calls Tryz.prog 133 #[u, .int .i64 k] w fun e w' => e = .returned (.int .i64 (mExprS k xs).2) ∧ SlR fp w' u (mExprS k xs).1 ∧ Wr fp w w'
  | 0 => markExprS_of (fun d1 h => by omega)
  | d + 1 => markExprS_of (fun d1 h => by cases h; exact markExprS_all d)
theorem markExprS_any {d : Nat} (fp : List Nat) (u : Value) (xs : List (GE d)) (k : Int) (w : World) (hu : SlR fp w u xs) (hnd : fp.Nodup) (h0 : 0 < k) (h1 : (mExprS k xs).2 ≤ 4398046511104) :
    Calls Tryz.prog 133 #[u, .int .i64 k] w fun e w' => e = .returned (.int .i64 (mExprS k xs).2) ∧ SlR fp w' u (mExprS k xs).1 ∧ Wr fp w w' := markExprS_all d fp u xs k w hu hnd h0 h1

end Go.Proofs.YtbfmeiooeaaibaaGreat

namespace Go.Proofs.YtbfmeiooeaaibaaGreat
open Go.RowKit
set_option linter.unusedVariables false
variable {d : Nat}

/-- The marks of an element. -/
def mEquation (k : Int) : (GEquation d) → (GEquation d) × Int
  | ((_, _), (_, _, _, _, _, _, q16)) => (((k, mtx (k + 1)), (k + 1 + 1, k + 1 + 1 + 1, k + 1 + 1 + 1 + 1, k + 1 + 1 + 1 + 1 + 1, mtx (k + 1 + 1 + 1 + 1 + 1 + 1), mtx (k + 1 + 1 + 1 + 1 + 1 + 1 + 1), (mExprS (k + 1 + 1 + 1 + 1 + 1 + 1 + 1 + 1) q16).1)), (mExprS (k + 1 + 1 + 1 + 1 + 1 + 1 + 1 + 1) q16).2)
theorem mEquation_bd (k : Int) (x : (GEquation d)) : k ≤ (mEquation k x).2 ∧ (mEquation k x).2 ≤ k + 16 * (1 + wtEquation x) := by
  obtain ⟨⟨q00, q01⟩, ⟨q10, q11, q12, q13, q14, q15, q16⟩⟩ := x
  have bq16 := mExprS_bd (k + 1 + 1 + 1 + 1 + 1 + 1 + 1 + 1) q16
  have hw1 : wtExpr (q10, q11, q12, q13, q14, q15, q16) = (q14.size) + (q15.size) + (wtExprS q16) := rfl
  have hw : wtEquation ((q00, q01), (q10, q11, q12, q13, q14, q15, q16)) = (wtOccurrence (q00, q01)) + (wtExpr (q10, q11, q12, q13, q14, q15, q16)) := rfl
  simp only [mEquation] at *
  omega
theorem mEquation_mono (k : Int) (x : (GEquation d)) : k ≤ (mEquation k x).2 := (mEquation_bd k x).1
def mEquationS (k : Int) (x : List (GEquation d)) : List (GEquation d) × Int := markL mEquation k x
theorem mEquationS_len (k : Int) (x : List (GEquation d)) : (mEquationS k x).1.length = x.length := markL_len _ _ _
theorem mEquationS_bd (k : Int) (x : List (GEquation d)) : k ≤ (mEquationS k x).2 ∧ (mEquationS k x).2 ≤ k + 16 * wtEquationS x := by
  have := markL_bd mEquation wtEquation mEquation_bd x k
  unfold mEquationS wtEquationS
  exact this
theorem mEquationS_mono (k : Int) (x : List (GEquation d)) : k ≤ (mEquationS k x).2 := (mEquationS_bd k x).1

set_option maxRecDepth 10000 in
set_option maxHeartbeats 4000000 in
theorem markEquationS_any (fp : List Nat) (u : Value) (xs : List (GEquation d)) (k : Int) (w : World) (hu : SlR fp w u xs) (hnd : fp.Nodup) (h0 : 0 < k) (h1 : (mEquationS k xs).2 ≤ 4398046511104) :
    Calls Tryz.prog 103 #[u, .int .i64 k] w fun e w' => e = .returned (.int .i64 (mEquationS k xs).2) ∧ SlR fp w' u (mEquationS k xs).1 ∧ Wr fp w w' := by
  obtain ⟨a, ca, rfl, g1, g2, g3⟩ := hu.open
  have H1 := Lib.hid h1
  clear h1
  go_enter Tryz.func103, Tryz.ntmps103
  go_wp2
  go_loopw [5, 1] (fun s5 s1 wr => ∃ (i : Nat) (m : Int), i ≤ xs.length ∧ Hid (m = (markL mEquation k (xs.take i)).2) ∧ SlR fp wr (.slice a xs.length ca) (markT mEquation k xs i) ∧ Wr fp w wr ∧ s5 = .int .i64 i ∧ s1 = .int .i64 m) (fun s5 _ _ => xs.length - (intOf s5).toNat)
  case atStart => exact ⟨0, k, by omega, Lib.hid (by simp [markL]), by rw [markT_zero]; exact hu, Wr.refl _ _, rfl, rfl⟩
  case round =>
    obtain ⟨i, m, hi, hm, hs, hW, rfl, rfl⟩ := hrel
    have HS := Lib.hid hs
    have HW := Lib.hid hW
    clear hs hW
    by_cases hlt : i < xs.length
    · obtain ⟨b, off, rfl, hb⟩ := g3 i hlt
      have hlt' : i < (markT mEquation k xs i).length := by rw [markT_len]; exact hlt
      obtain ⟨cs, fq, hc, hr, hsub, hbm, hbn, hnq, hz, hput⟩ := HS.out.focus hnd hlt'
      have HP := Lib.hid hput
      rw [markT_at mEquation k xs hlt] at hr
      obtain ⟨y, hy⟩ : ∃ y, y = xs[i] := ⟨_, rfl⟩
      rw [← hy] at hr
      have HY := Lib.hid hy
      have bd := markL_take mEquation mEquation_mono k xs (i + 1)
      have bd2 := markL_take mEquation mEquation_mono k xs i
      rw [markK_succ mEquation k xs hlt, ← hm.out, ← hy] at bd
      rw [← hm.out] at bd2
      obtain ⟨⟨q00, q01⟩, ⟨q10, q11, q12, q13, q14, q15, q16⟩⟩ := y
      obtain ⟨vq16, fq16, hcs, hfq, hq00, hq01, hq10, hq11, hq12, hq13, hq14, hq15, hq16⟩ := rdEquation_inv (cs := cs.toArray) q00 q01 q10 q11 q12 q13 q14 q15 q16 (by simpa using hr)
      obtain rfl : cs = [.int .i64 q00, .string q01, .int .i64 q10, .int .i64 q11, .int .i64 q12, .int .i64 q13, .string q14, .string q15, vq16] := by have := congrArg Array.toList hcs; simpa using this
      rw [hfq] at hsub hbn hnq HP hput hr
      clear hfq
      have z0 : wr.cell? ⟨b, off + i * 9, none⟩ = some (.int .i64 q00) := by simpa [Rd.n] using hc 0 _ rfl
      have z1 : wr.cell? ⟨b, off + i * 9 + 1, none⟩ = some (.string q01) := hc 1 _ rfl
      have z2 : wr.cell? ⟨b, off + i * 9 + 2, none⟩ = some (.int .i64 q10) := hc 2 _ rfl
      have z3 : wr.cell? ⟨b, off + i * 9 + 3, none⟩ = some (.int .i64 q11) := hc 3 _ rfl
      have z4 : wr.cell? ⟨b, off + i * 9 + 4, none⟩ = some (.int .i64 q12) := hc 4 _ rfl
      have z5 : wr.cell? ⟨b, off + i * 9 + 5, none⟩ = some (.int .i64 q13) := hc 5 _ rfl
      have z6 : wr.cell? ⟨b, off + i * 9 + 6, none⟩ = some (.string q14) := hc 6 _ rfl
      have z7 : wr.cell? ⟨b, off + i * 9 + 7, none⟩ = some (.string q15) := hc 7 _ rfl
      have z8 : wr.cell? ⟨b, off + i * 9 + 8, none⟩ = some (vq16) := hc 8 _ rfl
      have f0 : wr.frozen? ⟨b, off + i * 9, none⟩ = false := by simpa [Rd.n] using hz 0 (by show _ < 9; decide)
      have f1 : wr.frozen? ⟨b, off + i * 9 + 1, none⟩ = false := hz 1 (by show _ < 9; decide)
      have f2 : wr.frozen? ⟨b, off + i * 9 + 2, none⟩ = false := hz 2 (by show _ < 9; decide)
      have f3 : wr.frozen? ⟨b, off + i * 9 + 3, none⟩ = false := hz 3 (by show _ < 9; decide)
      have f4 : wr.frozen? ⟨b, off + i * 9 + 4, none⟩ = false := hz 4 (by show _ < 9; decide)
      have f5 : wr.frozen? ⟨b, off + i * 9 + 5, none⟩ = false := hz 5 (by show _ < 9; decide)
      have f6 : wr.frozen? ⟨b, off + i * 9 + 6, none⟩ = false := hz 6 (by show _ < 9; decide)
      have f7 : wr.frozen? ⟨b, off + i * 9 + 7, none⟩ = false := hz 7 (by show _ < 9; decide)
      have bl := blk z0
      have m0 : 0 < m := by omega
      have em : (mEquation m ((q00, q01), (q10, q11, q12, q13, q14, q15, q16))).2 = (mExprS (m + 1 + 1 + 1 + 1 + 1 + 1 + 1 + 1) q16).2 := rfl
      rw [em] at bd
      have bq16 := mExprS_mono (m + 1 + 1 + 1 + 1 + 1 + 1 + 1 + 1) q16
      have m1 : (mExprS (m + 1 + 1 + 1 + 1 + 1 + 1 + 1 + 1) q16).2 ≤ 4398046511104 := by have h := H1.out; have e : (mEquationS k xs).2 = (markL mEquation k xs).2 := rfl; omega
      have n0_1 := fun (W : World) (v : Value) => cell_setCell_ne (w := W) (b := b) (o := off + i * 9) (o' := off + i * 9 + 1) (v := v) (by omega)
      have n0_2 := fun (W : World) (v : Value) => cell_setCell_ne (w := W) (b := b) (o := off + i * 9) (o' := off + i * 9 + 2) (v := v) (by omega)
      have n0_3 := fun (W : World) (v : Value) => cell_setCell_ne (w := W) (b := b) (o := off + i * 9) (o' := off + i * 9 + 3) (v := v) (by omega)
      have n0_4 := fun (W : World) (v : Value) => cell_setCell_ne (w := W) (b := b) (o := off + i * 9) (o' := off + i * 9 + 4) (v := v) (by omega)
      have n0_5 := fun (W : World) (v : Value) => cell_setCell_ne (w := W) (b := b) (o := off + i * 9) (o' := off + i * 9 + 5) (v := v) (by omega)
      have n0_6 := fun (W : World) (v : Value) => cell_setCell_ne (w := W) (b := b) (o := off + i * 9) (o' := off + i * 9 + 6) (v := v) (by omega)
      have n0_7 := fun (W : World) (v : Value) => cell_setCell_ne (w := W) (b := b) (o := off + i * 9) (o' := off + i * 9 + 7) (v := v) (by omega)
      have n0_8 := fun (W : World) (v : Value) => cell_setCell_ne (w := W) (b := b) (o := off + i * 9) (o' := off + i * 9 + 8) (v := v) (by omega)
      have n1_0 := fun (W : World) (v : Value) => cell_setCell_ne (w := W) (b := b) (o := off + i * 9 + 1) (o' := off + i * 9) (v := v) (by omega)
      have n1_2 := fun (W : World) (v : Value) => cell_setCell_ne (w := W) (b := b) (o := off + i * 9 + 1) (o' := off + i * 9 + 2) (v := v) (by omega)
      have n1_3 := fun (W : World) (v : Value) => cell_setCell_ne (w := W) (b := b) (o := off + i * 9 + 1) (o' := off + i * 9 + 3) (v := v) (by omega)
      have n1_4 := fun (W : World) (v : Value) => cell_setCell_ne (w := W) (b := b) (o := off + i * 9 + 1) (o' := off + i * 9 + 4) (v := v) (by omega)
      have n1_5 := fun (W : World) (v : Value) => cell_setCell_ne (w := W) (b := b) (o := off + i * 9 + 1) (o' := off + i * 9 + 5) (v := v) (by omega)
      have n1_6 := fun (W : World) (v : Value) => cell_setCell_ne (w := W) (b := b) (o := off + i * 9 + 1) (o' := off + i * 9 + 6) (v := v) (by omega)
      have n1_7 := fun (W : World) (v : Value) => cell_setCell_ne (w := W) (b := b) (o := off + i * 9 + 1) (o' := off + i * 9 + 7) (v := v) (by omega)
      have n1_8 := fun (W : World) (v : Value) => cell_setCell_ne (w := W) (b := b) (o := off + i * 9 + 1) (o' := off + i * 9 + 8) (v := v) (by omega)
      have n2_0 := fun (W : World) (v : Value) => cell_setCell_ne (w := W) (b := b) (o := off + i * 9 + 2) (o' := off + i * 9) (v := v) (by omega)
      have n2_1 := fun (W : World) (v : Value) => cell_setCell_ne (w := W) (b := b) (o := off + i * 9 + 2) (o' := off + i * 9 + 1) (v := v) (by omega)
      have n2_3 := fun (W : World) (v : Value) => cell_setCell_ne (w := W) (b := b) (o := off + i * 9 + 2) (o' := off + i * 9 + 3) (v := v) (by omega)
      have n2_4 := fun (W : World) (v : Value) => cell_setCell_ne (w := W) (b := b) (o := off + i * 9 + 2) (o' := off + i * 9 + 4) (v := v) (by omega)
      have n2_5 := fun (W : World) (v : Value) => cell_setCell_ne (w := W) (b := b) (o := off + i * 9 + 2) (o' := off + i * 9 + 5) (v := v) (by omega)
      have n2_6 := fun (W : World) (v : Value) => cell_setCell_ne (w := W) (b := b) (o := off + i * 9 + 2) (o' := off + i * 9 + 6) (v := v) (by omega)
      have n2_7 := fun (W : World) (v : Value) => cell_setCell_ne (w := W) (b := b) (o := off + i * 9 + 2) (o' := off + i * 9 + 7) (v := v) (by omega)
      have n2_8 := fun (W : World) (v : Value) => cell_setCell_ne (w := W) (b := b) (o := off + i * 9 + 2) (o' := off + i * 9 + 8) (v := v) (by omega)
      have n3_0 := fun (W : World) (v : Value) => cell_setCell_ne (w := W) (b := b) (o := off + i * 9 + 3) (o' := off + i * 9) (v := v) (by omega)
      have n3_1 := fun (W : World) (v : Value) => cell_setCell_ne (w := W) (b := b) (o := off + i * 9 + 3) (o' := off + i * 9 + 1) (v := v) (by omega)
      have n3_2 := fun (W : World) (v : Value) => cell_setCell_ne (w := W) (b := b) (o := off + i * 9 + 3) (o' := off + i * 9 + 2) (v := v) (by omega)
      have n3_4 := fun (W : World) (v : Value) => cell_setCell_ne (w := W) (b := b) (o := off + i * 9 + 3) (o' := off + i * 9 + 4) (v := v) (by omega)
      have n3_5 := fun (W : World) (v : Value) => cell_setCell_ne (w := W) (b := b) (o := off + i * 9 + 3) (o' := off + i * 9 + 5) (v := v) (by omega)
      have n3_6 := fun (W : World) (v : Value) => cell_setCell_ne (w := W) (b := b) (o := off + i * 9 + 3) (o' := off + i * 9 + 6) (v := v) (by omega)
      have n3_7 := fun (W : World) (v : Value) => cell_setCell_ne (w := W) (b := b) (o := off + i * 9 + 3) (o' := off + i * 9 + 7) (v := v) (by omega)
      have n3_8 := fun (W : World) (v : Value) => cell_setCell_ne (w := W) (b := b) (o := off + i * 9 + 3) (o' := off + i * 9 + 8) (v := v) (by omega)
      have n4_0 := fun (W : World) (v : Value) => cell_setCell_ne (w := W) (b := b) (o := off + i * 9 + 4) (o' := off + i * 9) (v := v) (by omega)
      have n4_1 := fun (W : World) (v : Value) => cell_setCell_ne (w := W) (b := b) (o := off + i * 9 + 4) (o' := off + i * 9 + 1) (v := v) (by omega)
      have n4_2 := fun (W : World) (v : Value) => cell_setCell_ne (w := W) (b := b) (o := off + i * 9 + 4) (o' := off + i * 9 + 2) (v := v) (by omega)
      have n4_3 := fun (W : World) (v : Value) => cell_setCell_ne (w := W) (b := b) (o := off + i * 9 + 4) (o' := off + i * 9 + 3) (v := v) (by omega)
      have n4_5 := fun (W : World) (v : Value) => cell_setCell_ne (w := W) (b := b) (o := off + i * 9 + 4) (o' := off + i * 9 + 5) (v := v) (by omega)
      have n4_6 := fun (W : World) (v : Value) => cell_setCell_ne (w := W) (b := b) (o := off + i * 9 + 4) (o' := off + i * 9 + 6) (v := v) (by omega)
      have n4_7 := fun (W : World) (v : Value) => cell_setCell_ne (w := W) (b := b) (o := off + i * 9 + 4) (o' := off + i * 9 + 7) (v := v) (by omega)
      have n4_8 := fun (W : World) (v : Value) => cell_setCell_ne (w := W) (b := b) (o := off + i * 9 + 4) (o' := off + i * 9 + 8) (v := v) (by omega)
      have n5_0 := fun (W : World) (v : Value) => cell_setCell_ne (w := W) (b := b) (o := off + i * 9 + 5) (o' := off + i * 9) (v := v) (by omega)
      have n5_1 := fun (W : World) (v : Value) => cell_setCell_ne (w := W) (b := b) (o := off + i * 9 + 5) (o' := off + i * 9 + 1) (v := v) (by omega)
      have n5_2 := fun (W : World) (v : Value) => cell_setCell_ne (w := W) (b := b) (o := off + i * 9 + 5) (o' := off + i * 9 + 2) (v := v) (by omega)
      have n5_3 := fun (W : World) (v : Value) => cell_setCell_ne (w := W) (b := b) (o := off + i * 9 + 5) (o' := off + i * 9 + 3) (v := v) (by omega)
      have n5_4 := fun (W : World) (v : Value) => cell_setCell_ne (w := W) (b := b) (o := off + i * 9 + 5) (o' := off + i * 9 + 4) (v := v) (by omega)
      have n5_6 := fun (W : World) (v : Value) => cell_setCell_ne (w := W) (b := b) (o := off + i * 9 + 5) (o' := off + i * 9 + 6) (v := v) (by omega)
      have n5_7 := fun (W : World) (v : Value) => cell_setCell_ne (w := W) (b := b) (o := off + i * 9 + 5) (o' := off + i * 9 + 7) (v := v) (by omega)
      have n5_8 := fun (W : World) (v : Value) => cell_setCell_ne (w := W) (b := b) (o := off + i * 9 + 5) (o' := off + i * 9 + 8) (v := v) (by omega)
      have n6_0 := fun (W : World) (v : Value) => cell_setCell_ne (w := W) (b := b) (o := off + i * 9 + 6) (o' := off + i * 9) (v := v) (by omega)
      have n6_1 := fun (W : World) (v : Value) => cell_setCell_ne (w := W) (b := b) (o := off + i * 9 + 6) (o' := off + i * 9 + 1) (v := v) (by omega)
      have n6_2 := fun (W : World) (v : Value) => cell_setCell_ne (w := W) (b := b) (o := off + i * 9 + 6) (o' := off + i * 9 + 2) (v := v) (by omega)
      have n6_3 := fun (W : World) (v : Value) => cell_setCell_ne (w := W) (b := b) (o := off + i * 9 + 6) (o' := off + i * 9 + 3) (v := v) (by omega)
      have n6_4 := fun (W : World) (v : Value) => cell_setCell_ne (w := W) (b := b) (o := off + i * 9 + 6) (o' := off + i * 9 + 4) (v := v) (by omega)
      have n6_5 := fun (W : World) (v : Value) => cell_setCell_ne (w := W) (b := b) (o := off + i * 9 + 6) (o' := off + i * 9 + 5) (v := v) (by omega)
      have n6_7 := fun (W : World) (v : Value) => cell_setCell_ne (w := W) (b := b) (o := off + i * 9 + 6) (o' := off + i * 9 + 7) (v := v) (by omega)
      have n6_8 := fun (W : World) (v : Value) => cell_setCell_ne (w := W) (b := b) (o := off + i * 9 + 6) (o' := off + i * 9 + 8) (v := v) (by omega)
      have n7_0 := fun (W : World) (v : Value) => cell_setCell_ne (w := W) (b := b) (o := off + i * 9 + 7) (o' := off + i * 9) (v := v) (by omega)
      have n7_1 := fun (W : World) (v : Value) => cell_setCell_ne (w := W) (b := b) (o := off + i * 9 + 7) (o' := off + i * 9 + 1) (v := v) (by omega)
      have n7_2 := fun (W : World) (v : Value) => cell_setCell_ne (w := W) (b := b) (o := off + i * 9 + 7) (o' := off + i * 9 + 2) (v := v) (by omega)
      have n7_3 := fun (W : World) (v : Value) => cell_setCell_ne (w := W) (b := b) (o := off + i * 9 + 7) (o' := off + i * 9 + 3) (v := v) (by omega)
      have n7_4 := fun (W : World) (v : Value) => cell_setCell_ne (w := W) (b := b) (o := off + i * 9 + 7) (o' := off + i * 9 + 4) (v := v) (by omega)
      have n7_5 := fun (W : World) (v : Value) => cell_setCell_ne (w := W) (b := b) (o := off + i * 9 + 7) (o' := off + i * 9 + 5) (v := v) (by omega)
      have n7_6 := fun (W : World) (v : Value) => cell_setCell_ne (w := W) (b := b) (o := off + i * 9 + 7) (o' := off + i * 9 + 6) (v := v) (by omega)
      have n7_8 := fun (W : World) (v : Value) => cell_setCell_ne (w := W) (b := b) (o := off + i * 9 + 7) (o' := off + i * 9 + 8) (v := v) (by omega)
      have fz := fun (W : World) (o o' : Nat) (v : Value) => (frozen_setCell' : (W.setCell ⟨b, o, none⟩ v).frozen? ⟨b, o', none⟩ = W.frozen? ⟨b, o', none⟩)
      have Hq00 := Lib.hid (wf_mark (y := m) (by omega) (by omega))
      have Hq01 := Lib.hid (mtx_size (m + 1) (by omega))
      have Hq10 := Lib.hid (wf_mark (y := m + 1 + 1) (by omega) (by omega))
      have Hq11 := Lib.hid (wf_mark (y := m + 1 + 1 + 1) (by omega) (by omega))
      have Hq12 := Lib.hid (wf_mark (y := m + 1 + 1 + 1 + 1) (by omega) (by omega))
      have Hq13 := Lib.hid (wf_mark (y := m + 1 + 1 + 1 + 1 + 1) (by omega) (by omega))
      have Hq14 := Lib.hid (mtx_size (m + 1 + 1 + 1 + 1 + 1 + 1) (by omega))
      have Hq15 := Lib.hid (mtx_size (m + 1 + 1 + 1 + 1 + 1 + 1 + 1) (by omega))
      have N0 : (fq16).Nodup := by simpa only [List.nil_append, List.append_nil] using hnq
      have M0 : b ∉ fq16 := by simpa only [List.nil_append, List.append_nil] using hbn
      have uq16 := N0
      have dq16 : b ∉ fq16 := fun h => M0 (by simp [h])
      have Sq16 := Lib.hid hq16
      obtain ⟨aaq16, ccq16, rfl, -, -, -⟩ := hq16.open
      have Hdq16 := Lib.hid dq16
      have Huq16 := Lib.hid uq16
      clear dq16 uq16 M0 N0  hq16
      clear hc hz hput bd2 g3 em hy hr hcs hq00 hq01 hq10 hq11 hq12 hq13 hq14 hq15
      have Hbn := Lib.hid hbn
      have Hnq := Lib.hid hnq
      have Hsub := Lib.hid hsub
      clear hbn hnq hsub
      go_wp2_with fail
      refine (markText_any (m + 1) _ (by omega) (by omega)).mono ?_
      rintro e w1 ⟨rfl, x1, rfl⟩
      go_wp2_with fail
      refine (markText_any (m + 1 + 1 + 1 + 1 + 1 + 1) _ (by omega) (by omega)).mono ?_
      rintro e w6 ⟨rfl, x6, rfl⟩
      go_wp2_with fail
      refine (markText_any (m + 1 + 1 + 1 + 1 + 1 + 1 + 1) _ (by omega) (by omega)).mono ?_
      rintro e w7 ⟨rfl, x7, rfl⟩
      go_wp2_with fail
      refine (markExprS_any fq16 _ q16 (m + 1 + 1 + 1 + 1 + 1 + 1 + 1 + 1) _ ((SlR.wr Sq16.out (fp := [b]) (by repeat (first | with_reducible refine Wr.setCell ?_ (by simp) _ | with_reducible refine Wr.gr ?_ (Gr.ext (Gr.refl _) _) | exact Wr.refl _ _)) (by have := Hdq16.out; intro c hc hcb; simp at hcb; subst hcb; exact this hc))) Huq16.out (by omega) (by show (mExprS (m + 1 + 1 + 1 + 1 + 1 + 1 + 1 + 1) q16).2 ≤ _; omega)).mono ?_
      rintro e y8 ⟨rfl, t8, r8⟩
      have T8 := Lib.hid t8
      have R8 := Lib.hid r8
      clear t8 r8
      have F8 := Lib.hid (Foc.inner (b := b) (lo := off + i * Rd.n (GEquation d)) (n := Rd.n (GEquation d)) (fq := (([] ++ []) ++ ([] ++ ([] ++ ([] ++ ([] ++ ([] ++ ([] ++ fq16)))))))) (w := wr) (by repeat (first | with_reducible refine Foc.set ?_ (by simp [Rd.n] <;> omega) (by simp [Rd.n] <;> omega) _ | with_reducible refine Foc.gr ?_ bl (Gr.ext (Gr.refl _) _) | exact Foc.refl _ _ _ _ _)) bl R8.out (by intro c hc; simp [hc]) Hdq16.out)
      have Sq16x8 := T8
      have e8 := R8.out.block b (Nat.lt_of_lt_of_le bl (Foc.wr (b := b) (lo := off + i * Rd.n (GEquation d)) (n := Rd.n (GEquation d)) (fq := (([] ++ []) ++ ([] ++ ([] ++ ([] ++ ([] ++ ([] ++ ([] ++ fq16)))))))) (w := wr) (by repeat (first | with_reducible refine Foc.set ?_ (by simp [Rd.n] <;> omega) (by simp [Rd.n] <;> omega) _ | with_reducible refine Foc.gr ?_ bl (Gr.ext (Gr.refl _) _) | exact Foc.refl _ _ _ _ _))).size) Hdq16.out
      have c8 := fun (o : Nat) => World.cell?_of_block (a := ⟨b, o, none⟩) e8
      have z0x8 : y8.cell? ⟨b, off + i * 9, none⟩ = some (.int .i64 (m)) := (c8 _).trans (by go_simp)
      have z1x8 : y8.cell? ⟨b, off + i * 9 + 1, none⟩ = some (.string (mtx (m + 1))) := (c8 _).trans (by go_simp)
      have z2x8 : y8.cell? ⟨b, off + i * 9 + 2, none⟩ = some (.int .i64 (m + 1 + 1)) := (c8 _).trans (by go_simp)
      have z3x8 : y8.cell? ⟨b, off + i * 9 + 3, none⟩ = some (.int .i64 (m + 1 + 1 + 1)) := (c8 _).trans (by go_simp)
      have z4x8 : y8.cell? ⟨b, off + i * 9 + 4, none⟩ = some (.int .i64 (m + 1 + 1 + 1 + 1)) := (c8 _).trans (by go_simp)
      have z5x8 : y8.cell? ⟨b, off + i * 9 + 5, none⟩ = some (.int .i64 (m + 1 + 1 + 1 + 1 + 1)) := (c8 _).trans (by go_simp)
      have z6x8 : y8.cell? ⟨b, off + i * 9 + 6, none⟩ = some (.string (mtx (m + 1 + 1 + 1 + 1 + 1 + 1))) := (c8 _).trans (by go_simp)
      have z7x8 : y8.cell? ⟨b, off + i * 9 + 7, none⟩ = some (.string (mtx (m + 1 + 1 + 1 + 1 + 1 + 1 + 1))) := (c8 _).trans (by go_simp)
      have z8x8 : y8.cell? ⟨b, off + i * 9 + 8, none⟩ = some (.slice aaq16 q16.length ccq16) := (c8 _).trans (by go_simp)
      have s8 := R8.out.size
      clear e8 c8 z0 z1 z2 z3 z4 z5 z6 z7 z8
      clear fz n0_1 n0_2 n0_3 n0_4 n0_5 n0_6 n0_7 n0_8 n1_0 n1_2 n1_3 n1_4 n1_5 n1_6 n1_7 n1_8 n2_0 n2_1 n2_3 n2_4 n2_5 n2_6 n2_7 n2_8 n3_0 n3_1 n3_2 n3_4 n3_5 n3_6 n3_7 n3_8 n4_0 n4_1 n4_2 n4_3 n4_5 n4_6 n4_7 n4_8 n5_0 n5_1 n5_2 n5_3 n5_4 n5_6 n5_7 n5_8 n6_0 n6_1 n6_2 n6_3 n6_4 n6_5 n6_7 n6_8 n7_0 n7_1 n7_2 n7_3 n7_4 n7_5 n7_6 n7_8 f0 f1 f2 f3 f4 f5 f6 f7
      go_wp2_with fail
      refine ⟨⟨i + 1, (mExprS (m + 1 + 1 + 1 + 1 + 1 + 1 + 1 + 1) q16).2, by omega, Lib.hid ?_, ?_, ?_, by go_num, rfl⟩, by simp [intOf]; omega⟩
      · rw [markK_succ mEquation k xs hlt, ← hm.out, ← HY.out]; rfl
      · rw [markT_succ mEquation k xs hlt, ← hm.out, ← HY.out]
        refine HP.out _ [.int .i64 (m), .string (mtx (m + 1)), .int .i64 (m + 1 + 1), .int .i64 (m + 1 + 1 + 1), .int .i64 (m + 1 + 1 + 1 + 1), .int .i64 (m + 1 + 1 + 1 + 1 + 1), .string (mtx (m + 1 + 1 + 1 + 1 + 1 + 1)), .string (mtx (m + 1 + 1 + 1 + 1 + 1 + 1 + 1)), .slice aaq16 q16.length ccq16] (mEquation m ((q00, q01), (q10, q11, q12, q13, q14, q15, q16))).1 (by repeat (first | with_reducible refine Foc.set ?_ (by simp [Rd.n] <;> omega) (by simp [Rd.n] <;> omega) _ | with_reducible refine Foc.gr ?_ bl (Gr.ext (Gr.refl _) _) | exact F8.out)) (fun j v hj => ?_) (rdEquation_mk (m) (mtx (m + 1)) (m + 1 + 1) (m + 1 + 1 + 1) (m + 1 + 1 + 1 + 1) (m + 1 + 1 + 1 + 1 + 1) (mtx (m + 1 + 1 + 1 + 1 + 1 + 1)) (mtx (m + 1 + 1 + 1 + 1 + 1 + 1 + 1)) ((mExprS (m + 1 + 1 + 1 + 1 + 1 + 1 + 1 + 1) q16).1) Hq00.out Hq01.out Hq10.out Hq11.out Hq12.out Hq13.out Hq14.out Hq15.out (SlR.wr Sq16x8.out (fp := [b]) (by repeat (first | with_reducible refine Wr.setCell ?_ (by simp) _ | with_reducible refine Wr.gr ?_ (Gr.ext (Gr.refl _) _) | exact Wr.refl _ _)) (by have := Hdq16.out; intro c hc hcb; simp at hcb; subst hcb; exact this hc)))
        have en : off + i * Rd.n (GEquation d) = off + i * 9 := rfl
        rw [en]
        match j, hj with
        | 0, hj => obtain rfl := Option.some.inj hj; exact z0x8
        | 1, hj => obtain rfl := Option.some.inj hj; exact z1x8
        | 2, hj => obtain rfl := Option.some.inj hj; exact z2x8
        | 3, hj => obtain rfl := Option.some.inj hj; exact z3x8
        | 4, hj => obtain rfl := Option.some.inj hj; exact z4x8
        | 5, hj => obtain rfl := Option.some.inj hj; exact z5x8
        | 6, hj => obtain rfl := Option.some.inj hj; exact z6x8
        | 7, hj => obtain rfl := Option.some.inj hj; exact z7x8
        | 8, hj => obtain rfl := Option.some.inj hj; exact z8x8
      · exact HW.out.trans (Wr.sub (Foc.wr (b := b) (lo := off + i * Rd.n (GEquation d)) (n := Rd.n (GEquation d)) (fq := (([] ++ []) ++ ([] ++ ([] ++ ([] ++ ([] ++ ([] ++ ([] ++ fq16)))))))) (by repeat (first | with_reducible refine Foc.set ?_ (by simp [Rd.n] <;> omega) (by simp [Rd.n] <;> omega) _ | with_reducible refine Foc.gr ?_ bl (Gr.ext (Gr.refl _) _) | exact F8.out))) (fun c hc => by
          rcases List.mem_cons.1 hc with rfl | hc
          · exact hbm
          · exact Hsub.out c hc))
    · have hk2 : i = xs.length := by omega
      subst hk2
      have hs2 := HS.out
      rw [markT_all] at hs2
      have hm2 := hm.out
      rw [List.take_length] at hm2
      have HS2 := Lib.hid hs2
      have HM2 := Lib.hid hm2
      clear hs2 hm2 HS hm
      go_wp2
      go_ret
      exact ⟨ret_int HM2.out, HS2.out, HW.out⟩

end Go.Proofs.YtbfmeiooeaaibaaGreat
