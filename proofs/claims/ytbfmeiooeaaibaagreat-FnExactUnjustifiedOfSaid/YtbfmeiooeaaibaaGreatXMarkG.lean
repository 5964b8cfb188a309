/- Contracts of the functions that mark and look at marks: Expr*:m. Made by mk_mark.py. Contracts of the functions that mark and look at marks: Equation*:m. Made by mk_mark.py. Contracts of the functions that mark and look at marks: Contribution*:m. Made by mk_mark.py. Contracts of the functions that mark and look at marks: Rule*:m, Grammar:m. Made by mk_mark.py. No condition. -/
import Derived.Test.YtbfmeiooeaaibaaGreatXMark
import Derived.Test.YtbfmeiooeaaibaaGreatFamGramB
import Derived.Test.YtbfmeiooeaaibaaGreatFamGramC
import Derived.Test.YtbfmeiooeaaibaaGreatFamGramD
import Derived.Test.YtbfmeiooeaaibaaGreatFamGram
namespace Go.Proofs.YtbfmeiooeaaibaaGreat
open Go.RowKit
set_option linter.unusedVariables false

/-- The marks of an expression. -/
def mE : (d : Nat) → Int → GE d → GE d × Int
  | 0, _, x => PEmpty.elim x
  | d + 1, k, x => (fun y : GExpr d => (((k, k + 1, k + 1 + 1, k + 1 + 1 + 1, mtx (k + 1 + 1 + 1 + 1), mtx (k + 1 + 1 + 1 + 1 + 1), (markL (mE d) (k + 1 + 1 + 1 + 1 + 1 + 1) y.2.2.2.2.2.2).1) : GExpr d), (markL (mE d) (k + 1 + 1 + 1 + 1 + 1 + 1) y.2.2.2.2.2.2).2)) x
theorem mE_bd : (d : Nat) → ∀ (k : Int) (x : GE d), k ≤ (mE d k x).2 ∧ (mE d k x).2 ≤ k + 16 * (1 + wtE d x)
  | 0 => fun k x => PEmpty.elim x
  | d + 1 => fun k x => by
    have b := markL_bd (mE d) (wtE d) (mE_bd d) (show GExpr d from x).2.2.2.2.2.2 (k + 1 + 1 + 1 + 1 + 1 + 1)
    have e : (mE (d + 1) k x).2 = (markL (mE d) (k + 1 + 1 + 1 + 1 + 1 + 1) (show GExpr d from x).2.2.2.2.2.2).2 := rfl
    have hw : wtE (d + 1) x = (show GExpr d from x).2.2.2.2.1.size + (show GExpr d from x).2.2.2.2.2.1.size + wtL (wtE d) (show GExpr d from x).2.2.2.2.2.2 := rfl
    rw [e, hw]
    omega
theorem mE_mono (d : Nat) (k : Int) (x : GE d) : k ≤ (mE d k x).2 := (mE_bd d k x).1
def mExprS {d : Nat} (k : Int) (x : List (GE d)) : List (GE d) × Int := markL (mE d) k x
theorem mExprS_len {d : Nat} (k : Int) (x : List (GE d)) : (mExprS k x).1.length = x.length := markL_len _ _ _
theorem mExprS_bd {d : Nat} (k : Int) (x : List (GE d)) : k ≤ (mExprS k x).2 ∧ (mExprS k x).2 ≤ k + 16 * wtExprS x := by
  have := markL_bd (mE d) (wtE d) (mE_bd d) x k
  unfold mExprS wtExprS
  exact this
theorem mExprS_mono {d : Nat} (k : Int) (x : List (GE d)) : k ≤ (mExprS k x).2 := (mExprS_bd k x).1

set_option maxHeartbeats 4000000 in
theorem markExprS_of {d : Nat} (hE : ∀ d1, d = d1 + 1 → ∀ (fp : List Nat) (u : Value) (xs : List (GE d1)) (k : Int) (w : World) (hu : SlR fp w u xs) (hnd : fp.Nodup) (h0 : 0 < k) (h1 : (mExprS k xs).2 ≤ 4398046511104), Calls Tryz.prog 133 #[u, .int .i64 k] w fun e w' => e = .returned (.int .i64 (mExprS k xs).2) ∧ SlR fp w' u (mExprS k xs).1 ∧ Wr fp w w') (fp : List Nat) (u : Value) (xs : List (GE d)) (k : Int) (w : World) (hu : SlR fp w u xs) (hnd : fp.Nodup) (h0 : 0 < k) (h1 : (mExprS k xs).2 ≤ 4398046511104) :
    Calls Tryz.prog 133 #[u, .int .i64 k] w fun e w' => e = .returned (.int .i64 (mExprS k xs).2) ∧ SlR fp w' u (mExprS k xs).1 ∧ Wr fp w w' := by
  obtain ⟨a, ca, rfl, g1, g2, g3⟩ := hu.open
  have H1 := Lib.hid h1
  clear h1
  go_enter Tryz.func133, Tryz.ntmps133
  go_wp2
  go_loopw [5, 1] (fun s5 s1 wr => ∃ (i : Nat) (m : Int), i ≤ xs.length ∧ Hid (m = (markL (mE (d)) k (xs.take i)).2) ∧ SlR fp wr (.slice a xs.length ca) (markT (mE (d)) k xs i) ∧ Wr fp w wr ∧ s5 = .int .i64 i ∧ s1 = .int .i64 m) (fun s5 _ _ => xs.length - (intOf s5).toNat)
  case atStart => exact ⟨0, k, by omega, Lib.hid (by simp [markL]), by rw [markT_zero]; exact hu, Wr.refl _ _, rfl, rfl⟩
  case round =>
    obtain ⟨i, m, hi, hm, hs, hW, rfl, rfl⟩ := hrel
    have HS := Lib.hid hs
    have HW := Lib.hid hW
    clear hs hW
    by_cases hlt : i < xs.length
    · obtain ⟨d1, rfl⟩ : ∃ e, d = e + 1 := by
        cases d with
        | zero => exact PEmpty.elim (xs[i])
        | succ e => exact ⟨e, rfl⟩
      obtain ⟨b, off, rfl, hb⟩ := g3 i hlt
      have hlt' : i < (markT (mE (d1 + 1)) k xs i).length := by rw [markT_len]; exact hlt
      obtain ⟨cs, fq, hc, hr, hsub, hbm, hbn, hnq, hz, hput⟩ := HS.out.focus hnd hlt'
      have HP := Lib.hid hput
      rw [markT_at (mE (d1 + 1)) k xs hlt] at hr
      obtain ⟨y, hy⟩ : ∃ y, y = xs[i] := ⟨_, rfl⟩
      rw [← hy] at hr
      have HY := Lib.hid hy
      have bd := markL_take (mE (d1 + 1)) (mE_mono (d1 + 1)) k xs (i + 1)
      have bd2 := markL_take (mE (d1 + 1)) (mE_mono (d1 + 1)) k xs i
      rw [markK_succ (mE (d1 + 1)) k xs hlt, ← hm.out, ← hy] at bd
      rw [← hm.out] at bd2
      obtain ⟨q0, q1, q2, q3, q4, q5, q6⟩ := y
      obtain ⟨vq6, fq6, hcs, hfq, hq0, hq1, hq2, hq3, hq4, hq5, hq6⟩ := rdExpr_inv (cs := cs.toArray) q0 q1 q2 q3 q4 q5 q6 (show Rd.rd (α := GExpr d1) fq wr cs.toArray.toList _ from hr)
      obtain rfl : cs = [.int .i64 q0, .int .i64 q1, .int .i64 q2, .int .i64 q3, .string q4, .string q5, vq6] := by have := congrArg Array.toList hcs; simpa using this
      rw [hfq] at hsub hbn hnq HP hput hr
      clear hfq
      have z0 : wr.cell? ⟨b, off + i * 7, none⟩ = some (.int .i64 q0) := by simpa [Rd.n] using hc 0 _ rfl
      have z1 : wr.cell? ⟨b, off + i * 7 + 1, none⟩ = some (.int .i64 q1) := hc 1 _ rfl
      have z2 : wr.cell? ⟨b, off + i * 7 + 2, none⟩ = some (.int .i64 q2) := hc 2 _ rfl
      have z3 : wr.cell? ⟨b, off + i * 7 + 3, none⟩ = some (.int .i64 q3) := hc 3 _ rfl
      have z4 : wr.cell? ⟨b, off + i * 7 + 4, none⟩ = some (.string q4) := hc 4 _ rfl
      have z5 : wr.cell? ⟨b, off + i * 7 + 5, none⟩ = some (.string q5) := hc 5 _ rfl
      have z6 : wr.cell? ⟨b, off + i * 7 + 6, none⟩ = some (vq6) := hc 6 _ rfl
      have f0 : wr.frozen? ⟨b, off + i * 7, none⟩ = false := by simpa [Rd.n] using hz 0 (by show _ < 7; decide)
      have f1 : wr.frozen? ⟨b, off + i * 7 + 1, none⟩ = false := hz 1 (by show _ < 7; decide)
      have f2 : wr.frozen? ⟨b, off + i * 7 + 2, none⟩ = false := hz 2 (by show _ < 7; decide)
      have f3 : wr.frozen? ⟨b, off + i * 7 + 3, none⟩ = false := hz 3 (by show _ < 7; decide)
      have f4 : wr.frozen? ⟨b, off + i * 7 + 4, none⟩ = false := hz 4 (by show _ < 7; decide)
      have f5 : wr.frozen? ⟨b, off + i * 7 + 5, none⟩ = false := hz 5 (by show _ < 7; decide)
      have bl := blk z0
      have m0 : 0 < m := by omega
      have em : ((mE (d1 + 1)) m (q0, q1, q2, q3, q4, q5, q6)).2 = (mExprS (m + 1 + 1 + 1 + 1 + 1 + 1) q6).2 := rfl
      rw [em] at bd
      have bq6 := mExprS_mono (m + 1 + 1 + 1 + 1 + 1 + 1) q6
      have m1 : (mExprS (m + 1 + 1 + 1 + 1 + 1 + 1) q6).2 ≤ 4398046511104 := by have h := H1.out; have e : (mExprS k xs).2 = (markL (mE (d1 + 1)) k xs).2 := rfl; omega
      have n0_1 := fun (W : World) (v : Value) => cell_setCell_ne (w := W) (b := b) (o := off + i * 7) (o' := off + i * 7 + 1) (v := v) (by omega)
      have n0_2 := fun (W : World) (v : Value) => cell_setCell_ne (w := W) (b := b) (o := off + i * 7) (o' := off + i * 7 + 2) (v := v) (by omega)
      have n0_3 := fun (W : World) (v : Value) => cell_setCell_ne (w := W) (b := b) (o := off + i * 7) (o' := off + i * 7 + 3) (v := v) (by omega)
      have n0_4 := fun (W : World) (v : Value) => cell_setCell_ne (w := W) (b := b) (o := off + i * 7) (o' := off + i * 7 + 4) (v := v) (by omega)
      have n0_5 := fun (W : World) (v : Value) => cell_setCell_ne (w := W) (b := b) (o := off + i * 7) (o' := off + i * 7 + 5) (v := v) (by omega)
      have n0_6 := fun (W : World) (v : Value) => cell_setCell_ne (w := W) (b := b) (o := off + i * 7) (o' := off + i * 7 + 6) (v := v) (by omega)
      have n1_0 := fun (W : World) (v : Value) => cell_setCell_ne (w := W) (b := b) (o := off + i * 7 + 1) (o' := off + i * 7) (v := v) (by omega)
      have n1_2 := fun (W : World) (v : Value) => cell_setCell_ne (w := W) (b := b) (o := off + i * 7 + 1) (o' := off + i * 7 + 2) (v := v) (by omega)
      have n1_3 := fun (W : World) (v : Value) => cell_setCell_ne (w := W) (b := b) (o := off + i * 7 + 1) (o' := off + i * 7 + 3) (v := v) (by omega)
      have n1_4 := fun (W : World) (v : Value) => cell_setCell_ne (w := W) (b := b) (o := off + i * 7 + 1) (o' := off + i * 7 + 4) (v := v) (by omega)
      have n1_5 := fun (W : World) (v : Value) => cell_setCell_ne (w := W) (b := b) (o := off + i * 7 + 1) (o' := off + i * 7 + 5) (v := v) (by omega)
      have n1_6 := fun (W : World) (v : Value) => cell_setCell_ne (w := W) (b := b) (o := off + i * 7 + 1) (o' := off + i * 7 + 6) (v := v) (by omega)
      have n2_0 := fun (W : World) (v : Value) => cell_setCell_ne (w := W) (b := b) (o := off + i * 7 + 2) (o' := off + i * 7) (v := v) (by omega)
      have n2_1 := fun (W : World) (v : Value) => cell_setCell_ne (w := W) (b := b) (o := off + i * 7 + 2) (o' := off + i * 7 + 1) (v := v) (by omega)
      have n2_3 := fun (W : World) (v : Value) => cell_setCell_ne (w := W) (b := b) (o := off + i * 7 + 2) (o' := off + i * 7 + 3) (v := v) (by omega)
      have n2_4 := fun (W : World) (v : Value) => cell_setCell_ne (w := W) (b := b) (o := off + i * 7 + 2) (o' := off + i * 7 + 4) (v := v) (by omega)
      have n2_5 := fun (W : World) (v : Value) => cell_setCell_ne (w := W) (b := b) (o := off + i * 7 + 2) (o' := off + i * 7 + 5) (v := v) (by omega)
      have n2_6 := fun (W : World) (v : Value) => cell_setCell_ne (w := W) (b := b) (o := off + i * 7 + 2) (o' := off + i * 7 + 6) (v := v) (by omega)
      have n3_0 := fun (W : World) (v : Value) => cell_setCell_ne (w := W) (b := b) (o := off + i * 7 + 3) (o' := off + i * 7) (v := v) (by omega)
      have n3_1 := fun (W : World) (v : Value) => cell_setCell_ne (w := W) (b := b) (o := off + i * 7 + 3) (o' := off + i * 7 + 1) (v := v) (by omega)
      have n3_2 := fun (W : World) (v : Value) => cell_setCell_ne (w := W) (b := b) (o := off + i * 7 + 3) (o' := off + i * 7 + 2) (v := v) (by omega)
      have n3_4 := fun (W : World) (v : Value) => cell_setCell_ne (w := W) (b := b) (o := off + i * 7 + 3) (o' := off + i * 7 + 4) (v := v) (by omega)
      have n3_5 := fun (W : World) (v : Value) => cell_setCell_ne (w := W) (b := b) (o := off + i * 7 + 3) (o' := off + i * 7 + 5) (v := v) (by omega)
      have n3_6 := fun (W : World) (v : Value) => cell_setCell_ne (w := W) (b := b) (o := off + i * 7 + 3) (o' := off + i * 7 + 6) (v := v) (by omega)
      have n4_0 := fun (W : World) (v : Value) => cell_setCell_ne (w := W) (b := b) (o := off + i * 7 + 4) (o' := off + i * 7) (v := v) (by omega)
      have n4_1 := fun (W : World) (v : Value) => cell_setCell_ne (w := W) (b := b) (o := off + i * 7 + 4) (o' := off + i * 7 + 1) (v := v) (by omega)
      have n4_2 := fun (W : World) (v : Value) => cell_setCell_ne (w := W) (b := b) (o := off + i * 7 + 4) (o' := off + i * 7 + 2) (v := v) (by omega)
      have n4_3 := fun (W : World) (v : Value) => cell_setCell_ne (w := W) (b := b) (o := off + i * 7 + 4) (o' := off + i * 7 + 3) (v := v) (by omega)
      have n4_5 := fun (W : World) (v : Value) => cell_setCell_ne (w := W) (b := b) (o := off + i * 7 + 4) (o' := off + i * 7 + 5) (v := v) (by omega)
      have n4_6 := fun (W : World) (v : Value) => cell_setCell_ne (w := W) (b := b) (o := off + i * 7 + 4) (o' := off + i * 7 + 6) (v := v) (by omega)
      have n5_0 := fun (W : World) (v : Value) => cell_setCell_ne (w := W) (b := b) (o := off + i * 7 + 5) (o' := off + i * 7) (v := v) (by omega)
      have n5_1 := fun (W : World) (v : Value) => cell_setCell_ne (w := W) (b := b) (o := off + i * 7 + 5) (o' := off + i * 7 + 1) (v := v) (by omega)
      have n5_2 := fun (W : World) (v : Value) => cell_setCell_ne (w := W) (b := b) (o := off + i * 7 + 5) (o' := off + i * 7 + 2) (v := v) (by omega)
      have n5_3 := fun (W : World) (v : Value) => cell_setCell_ne (w := W) (b := b) (o := off + i * 7 + 5) (o' := off + i * 7 + 3) (v := v) (by omega)
      have n5_4 := fun (W : World) (v : Value) => cell_setCell_ne (w := W) (b := b) (o := off + i * 7 + 5) (o' := off + i * 7 + 4) (v := v) (by omega)
      have n5_6 := fun (W : World) (v : Value) => cell_setCell_ne (w := W) (b := b) (o := off + i * 7 + 5) (o' := off + i * 7 + 6) (v := v) (by omega)
      have fz := fun (W : World) (o o' : Nat) (v : Value) => (frozen_setCell' : (W.setCell ⟨b, o, none⟩ v).frozen? ⟨b, o', none⟩ = W.frozen? ⟨b, o', none⟩)
      have Hq0 := Lib.hid (wf_mark (y := m) (by omega) (by omega))
      have Hq1 := Lib.hid (wf_mark (y := m + 1) (by omega) (by omega))
      have Hq2 := Lib.hid (wf_mark (y := m + 1 + 1) (by omega) (by omega))
      have Hq3 := Lib.hid (wf_mark (y := m + 1 + 1 + 1) (by omega) (by omega))
      have Hq4 := Lib.hid (mtx_size (m + 1 + 1 + 1 + 1) (by omega))
      have Hq5 := Lib.hid (mtx_size (m + 1 + 1 + 1 + 1 + 1) (by omega))
      have N0 : (fq6).Nodup := by simpa only [List.nil_append, List.append_nil] using hnq
      have M0 : b ∉ fq6 := by simpa only [List.nil_append, List.append_nil] using hbn
      have uq6 := N0
      have dq6 : b ∉ fq6 := fun h => M0 (by simp [h])
      have Sq6 := Lib.hid hq6
      obtain ⟨aaq6, ccq6, rfl, -, -, -⟩ := hq6.open
      have Hdq6 := Lib.hid dq6
      have Huq6 := Lib.hid uq6
      clear dq6 uq6 M0 N0  hq6
      clear hc hz hput bd2 g3 em hy hr hcs hq0 hq1 hq2 hq3 hq4 hq5
      have Hbn := Lib.hid hbn
      have Hnq := Lib.hid hnq
      have Hsub := Lib.hid hsub
      clear hbn hnq hsub
      go_wp2_with fail
      refine (markText_any (m + 1 + 1 + 1 + 1) _ (by omega) (by omega)).mono ?_
      rintro e w4 ⟨rfl, x4, rfl⟩
      go_wp2_with fail
      refine (markText_any (m + 1 + 1 + 1 + 1 + 1) _ (by omega) (by omega)).mono ?_
      rintro e w5 ⟨rfl, x5, rfl⟩
      go_wp2_with fail
      refine (hE d1 rfl fq6 _ q6 (m + 1 + 1 + 1 + 1 + 1 + 1) _ ((SlR.wr Sq6.out (fp := [b]) (by repeat (first | with_reducible refine Wr.setCell ?_ (by simp) _ | with_reducible refine Wr.gr ?_ (Gr.ext (Gr.refl _) _) | exact Wr.refl _ _)) (by have := Hdq6.out; intro c hc hcb; simp at hcb; subst hcb; exact this hc))) Huq6.out (by omega) (by show (mExprS (m + 1 + 1 + 1 + 1 + 1 + 1) q6).2 ≤ _; omega)).mono ?_
      rintro e y6 ⟨rfl, t6, r6⟩
      have T6 := Lib.hid t6
      have R6 := Lib.hid r6
      clear t6 r6
      have F6 := Lib.hid (Foc.inner (b := b) (lo := off + i * Rd.n (GE (d1 + 1))) (n := Rd.n (GE (d1 + 1))) (fq := ([] ++ ([] ++ ([] ++ ([] ++ ([] ++ ([] ++ fq6))))))) (w := wr) (by repeat (first | with_reducible refine Foc.set ?_ (by simp [Rd.n] <;> omega) (by simp [Rd.n] <;> omega) _ | with_reducible refine Foc.gr ?_ bl (Gr.ext (Gr.refl _) _) | exact Foc.refl _ _ _ _ _)) bl R6.out (by intro c hc; simp [hc]) Hdq6.out)
      have Sq6x6 := T6
      have e6 := R6.out.block b (Nat.lt_of_lt_of_le bl (Foc.wr (b := b) (lo := off + i * Rd.n (GE (d1 + 1))) (n := Rd.n (GE (d1 + 1))) (fq := ([] ++ ([] ++ ([] ++ ([] ++ ([] ++ ([] ++ fq6))))))) (w := wr) (by repeat (first | with_reducible refine Foc.set ?_ (by simp [Rd.n] <;> omega) (by simp [Rd.n] <;> omega) _ | with_reducible refine Foc.gr ?_ bl (Gr.ext (Gr.refl _) _) | exact Foc.refl _ _ _ _ _))).size) Hdq6.out
      have c6 := fun (o : Nat) => World.cell?_of_block (a := ⟨b, o, none⟩) e6
      have z0x6 : y6.cell? ⟨b, off + i * 7, none⟩ = some (.int .i64 (m)) := (c6 _).trans (by go_simp)
      have z1x6 : y6.cell? ⟨b, off + i * 7 + 1, none⟩ = some (.int .i64 (m + 1)) := (c6 _).trans (by go_simp)
      have z2x6 : y6.cell? ⟨b, off + i * 7 + 2, none⟩ = some (.int .i64 (m + 1 + 1)) := (c6 _).trans (by go_simp)
      have z3x6 : y6.cell? ⟨b, off + i * 7 + 3, none⟩ = some (.int .i64 (m + 1 + 1 + 1)) := (c6 _).trans (by go_simp)
      have z4x6 : y6.cell? ⟨b, off + i * 7 + 4, none⟩ = some (.string (mtx (m + 1 + 1 + 1 + 1))) := (c6 _).trans (by go_simp)
      have z5x6 : y6.cell? ⟨b, off + i * 7 + 5, none⟩ = some (.string (mtx (m + 1 + 1 + 1 + 1 + 1))) := (c6 _).trans (by go_simp)
      have z6x6 : y6.cell? ⟨b, off + i * 7 + 6, none⟩ = some (.slice aaq6 q6.length ccq6) := (c6 _).trans (by go_simp)
      have s6 := R6.out.size
      clear e6 c6 z0 z1 z2 z3 z4 z5 z6
      clear fz n0_1 n0_2 n0_3 n0_4 n0_5 n0_6 n1_0 n1_2 n1_3 n1_4 n1_5 n1_6 n2_0 n2_1 n2_3 n2_4 n2_5 n2_6 n3_0 n3_1 n3_2 n3_4 n3_5 n3_6 n4_0 n4_1 n4_2 n4_3 n4_5 n4_6 n5_0 n5_1 n5_2 n5_3 n5_4 n5_6 f0 f1 f2 f3 f4 f5
      go_wp2_with fail
      refine ⟨⟨i + 1, (mExprS (m + 1 + 1 + 1 + 1 + 1 + 1) q6).2, by omega, Lib.hid ?_, ?_, ?_, by go_num, rfl⟩, by simp [intOf]; omega⟩
      · rw [markK_succ (mE (d1 + 1)) k xs hlt, ← hm.out, ← HY.out]; rfl
      · rw [markT_succ (mE (d1 + 1)) k xs hlt, ← hm.out, ← HY.out]
        refine HP.out _ [.int .i64 (m), .int .i64 (m + 1), .int .i64 (m + 1 + 1), .int .i64 (m + 1 + 1 + 1), .string (mtx (m + 1 + 1 + 1 + 1)), .string (mtx (m + 1 + 1 + 1 + 1 + 1)), .slice aaq6 q6.length ccq6] ((mE (d1 + 1)) m (q0, q1, q2, q3, q4, q5, q6)).1 (by repeat (first | with_reducible refine Foc.set ?_ (by simp [Rd.n] <;> omega) (by simp [Rd.n] <;> omega) _ | with_reducible refine Foc.gr ?_ bl (Gr.ext (Gr.refl _) _) | exact F6.out)) (fun j v hj => ?_) (rdExpr_mk (m) (m + 1) (m + 1 + 1) (m + 1 + 1 + 1) (mtx (m + 1 + 1 + 1 + 1)) (mtx (m + 1 + 1 + 1 + 1 + 1)) ((mExprS (m + 1 + 1 + 1 + 1 + 1 + 1) q6).1) Hq0.out Hq1.out Hq2.out Hq3.out Hq4.out Hq5.out (SlR.wr Sq6x6.out (fp := [b]) (by repeat (first | with_reducible refine Wr.setCell ?_ (by simp) _ | with_reducible refine Wr.gr ?_ (Gr.ext (Gr.refl _) _) | exact Wr.refl _ _)) (by have := Hdq6.out; intro c hc hcb; simp at hcb; subst hcb; exact this hc)))
        have en : off + i * Rd.n (GE (d1 + 1)) = off + i * 7 := rfl
        rw [en]
        match j, hj with
        | 0, hj => obtain rfl := Option.some.inj hj; exact z0x6
        | 1, hj => obtain rfl := Option.some.inj hj; exact z1x6
        | 2, hj => obtain rfl := Option.some.inj hj; exact z2x6
        | 3, hj => obtain rfl := Option.some.inj hj; exact z3x6
        | 4, hj => obtain rfl := Option.some.inj hj; exact z4x6
        | 5, hj => obtain rfl := Option.some.inj hj; exact z5x6
        | 6, hj => obtain rfl := Option.some.inj hj; exact z6x6
      · exact HW.out.trans (Wr.sub (Foc.wr (b := b) (lo := off + i * Rd.n (GE (d1 + 1))) (n := Rd.n (GE (d1 + 1))) (fq := ([] ++ ([] ++ ([] ++ ([] ++ ([] ++ ([] ++ fq6))))))) (by repeat (first | with_reducible refine Foc.set ?_ (by simp [Rd.n] <;> omega) (by simp [Rd.n] <;> omega) _ | with_reducible refine Foc.gr ?_ bl (Gr.ext (Gr.refl _) _) | exact F6.out))) (fun c hc => by
          rcases List.mem_cons.1 hc with rfl | hc
          · exact hbm
          · exact Hsub.out c hc))
    · have hk2 : i = xs.length := by omega
      subst hk2
      have hs2 := HS.out
      rw [markT_all] at hs2
      have hm2 := hm.out
      rw [List.take_length] at hm2
      have HS2 := Lib.hid hs2
      have HM2 := Lib.hid hm2
      clear hs2 hm2 HS hm
      go_wp2
      go_ret
      exact ⟨ret_int HM2.out, HS2.out, HW.out⟩

theorem markExprS_all : (d : Nat) → ∀ (fp : List Nat) (u : Value) (xs : List (GE d)) (k : Int) (w : World) (hu : SlR fp w u xs) (hnd : fp.Nodup) (h0 : 0 < k) (h1 : (mExprS k xs).2 ≤ 4398046511104), Calls Tryz.prog 133 #[u, .int .i64 k] w fun e w' => e = .returned (.int .i64 (mExprS k xs).2) ∧ SlR fp w' u (mExprS k xs).1 ∧ Wr fp w w'
  | 0 => markExprS_of (fun d1 h => by omega)
  | d + 1 => markExprS_of (fun d1 h => by cases h; exact markExprS_all d)
theorem markExprS_any {d : Nat} (fp : List Nat) (u : Value) (xs : List (GE d)) (k : Int) (w : World) (hu : SlR fp w u xs) (hnd : fp.Nodup) (h0 : 0 < k) (h1 : (mExprS k xs).2 ≤ 4398046511104) :
    Calls Tryz.prog 133 #[u, .int .i64 k] w fun e w' => e = .returned (.int .i64 (mExprS k xs).2) ∧ SlR fp w' u (mExprS k xs).1 ∧ Wr fp w w' := markExprS_all d fp u xs k w hu hnd h0 h1

end Go.Proofs.YtbfmeiooeaaibaaGreat

namespace Go.Proofs.YtbfmeiooeaaibaaGreat
open Go.RowKit
set_option linter.unusedVariables false
variable {d : Nat}

/-- The marks of an element. -/
def mEquation (k : Int) : (GEquation d) → (GEquation d) × Int
  | ((_, _), (_, _, _, _, _, _, q16)) => (((k, mtx (k + 1)), (k + 1 + 1, k + 1 + 1 + 1, k + 1 + 1 + 1 + 1, k + 1 + 1 + 1 + 1 + 1, mtx (k + 1 + 1 + 1 + 1 + 1 + 1), mtx (k + 1 + 1 + 1 + 1 + 1 + 1 + 1), (mExprS (k + 1 + 1 + 1 + 1 + 1 + 1 + 1 + 1) q16).1)), (mExprS (k + 1 + 1 + 1 + 1 + 1 + 1 + 1 + 1) q16).2)
theorem mEquation_bd (k : Int) (x : (GEquation d)) : k ≤ (mEquation k x).2 ∧ (mEquation k x).2 ≤ k + 16 * (1 + wtEquation x) := by
  obtain ⟨⟨q00, q01⟩, ⟨q10, q11, q12, q13, q14, q15, q16⟩⟩ := x
  have bq16 := mExprS_bd (k + 1 + 1 + 1 + 1 + 1 + 1 + 1 + 1) q16
  have hw1 : wtExpr (q10, q11, q12, q13, q14, q15, q16) = (q14.size) + (q15.size) + (wtExprS q16) := rfl
  have hw : wtEquation ((q00, q01), (q10, q11, q12, q13, q14, q15, q16)) = (wtOccurrence (q00, q01)) + (wtExpr (q10, q11, q12, q13, q14, q15, q16)) := rfl
  simp only [mEquation] at *
  omega
theorem mEquation_mono (k : Int) (x : (GEquation d)) : k ≤ (mEquation k x).2 := (mEquation_bd k x).1
def mEquationS (k : Int) (x : List (GEquation d)) : List (GEquation d) × Int := markL mEquation k x
theorem mEquationS_len (k : Int) (x : List (GEquation d)) : (mEquationS k x).1.length = x.length := markL_len _ _ _
theorem mEquationS_bd (k : Int) (x : List (GEquation d)) : k ≤ (mEquationS k x).2 ∧ (mEquationS k x).2 ≤ k + 16 * wtEquationS x := by
  have := markL_bd mEquation wtEquation mEquation_bd x k
  unfold mEquationS wtEquationS
  exact this
theorem mEquationS_mono (k : Int) (x : List (GEquation d)) : k ≤ (mEquationS k x).2 := (mEquationS_bd k x).1

set_option maxRecDepth 10000 in
set_option maxHeartbeats 4000000 in
theorem markEquationS_any (fp : List Nat) (u : Value) (xs : List (GEquation d)) (k : Int) (w : World) (hu : SlR fp w u xs) (hnd : fp.Nodup) (h0 : 0 < k) (h1 : (mEquationS k xs).2 ≤ 4398046511104) :
    Calls Tryz.prog 103 #[u, .int .i64 k] w fun e w' => e = .returned (.int .i64 (mEquationS k xs).2) ∧ SlR fp w' u (mEquationS k xs).1 ∧ Wr fp w w' := by
  obtain ⟨a, ca, rfl, g1, g2, g3⟩ := hu.open
  have H1 := Lib.hid h1
  clear h1
  go_enter Tryz.func103, Tryz.ntmps103
  go_wp2
  go_loopw [5, 1] (fun s5 s1 wr => ∃ (i : Nat) (m : Int), i ≤ xs.length ∧ Hid (m = (markL mEquation k (xs.take i)).2) ∧ SlR fp wr (.slice a xs.length ca) (markT mEquation k xs i) ∧ Wr fp w wr ∧ s5 = .int .i64 i ∧ s1 = .int .i64 m) (fun s5 _ _ => xs.length - (intOf s5).toNat)
  case atStart => exact ⟨0, k, by omega, Lib.hid (by simp [markL]), by rw [markT_zero]; exact hu, Wr.refl _ _, rfl, rfl⟩
  case round =>
    obtain ⟨i, m, hi, hm, hs, hW, rfl, rfl⟩ := hrel
    have HS := Lib.hid hs
    have HW := Lib.hid hW
    clear hs hW
    by_cases hlt : i < xs.length
    · obtain ⟨b, off, rfl, hb⟩ := g3 i hlt
      have hlt' : i < (markT mEquation k xs i).length := by rw [markT_len]; exact hlt
      obtain ⟨cs, fq, hc, hr, hsub, hbm, hbn, hnq, hz, hput⟩ := HS.out.focus hnd hlt'
      have HP := Lib.hid hput
      rw [markT_at mEquation k xs hlt] at hr
      obtain ⟨y, hy⟩ : ∃ y, y = xs[i] := ⟨_, rfl⟩
      rw [← hy] at hr
      have HY := Lib.hid hy
      have bd := markL_take mEquation mEquation_mono k xs (i + 1)
      have bd2 := markL_take mEquation mEquation_mono k xs i
      rw [markK_succ mEquation k xs hlt, ← hm.out, ← hy] at bd
      rw [← hm.out] at bd2
      obtain ⟨⟨q00, q01⟩, ⟨q10, q11, q12, q13, q14, q15, q16⟩⟩ := y
      obtain ⟨vq16, fq16, hcs, hfq, hq00, hq01, hq10, hq11, hq12, hq13, hq14, hq15, hq16⟩ := rdEquation_inv (cs := cs.toArray) q00 q01 q10 q11 q12 q13 q14 q15 q16 (by simpa using hr)
      obtain rfl : cs = [.int .i64 q00, .string q01, .int .i64 q10, .int .i64 q11, .int .i64 q12, .int .i64 q13, .string q14, .string q15, vq16] := by have := congrArg Array.toList hcs; simpa using this
      rw [hfq] at hsub hbn hnq HP hput hr
      clear hfq
      have z0 : wr.cell? ⟨b, off + i * 9, none⟩ = some (.int .i64 q00) := by simpa [Rd.n] using hc 0 _ rfl
      have z1 : wr.cell? ⟨b, off + i * 9 + 1, none⟩ = some (.string q01) := hc 1 _ rfl
      have z2 : wr.cell? ⟨b, off + i * 9 + 2, none⟩ = some (.int .i64 q10) := hc 2 _ rfl
      have z3 : wr.cell? ⟨b, off + i * 9 + 3, none⟩ = some (.int .i64 q11) := hc 3 _ rfl
      have z4 : wr.cell? ⟨b, off + i * 9 + 4, none⟩ = some (.int .i64 q12) := hc 4 _ rfl
      have z5 : wr.cell? ⟨b, off + i * 9 + 5, none⟩ = some (.int .i64 q13) := hc 5 _ rfl
      have z6 : wr.cell? ⟨b, off + i * 9 + 6, none⟩ = some (.string q14) := hc 6 _ rfl
      have z7 : wr.cell? ⟨b, off + i * 9 + 7, none⟩ = some (.string q15) := hc 7 _ rfl
      have z8 : wr.cell? ⟨b, off + i * 9 + 8, none⟩ = some (vq16) := hc 8 _ rfl
      have f0 : wr.frozen? ⟨b, off + i * 9, none⟩ = false := by simpa [Rd.n] using hz 0 (by show _ < 9; decide)
      have f1 : wr.frozen? ⟨b, off + i * 9 + 1, none⟩ = false := hz 1 (by show _ < 9; decide)
      have f2 : wr.frozen? ⟨b, off + i * 9 + 2, none⟩ = false := hz 2 (by show _ < 9; decide)
      have f3 : wr.frozen? ⟨b, off + i * 9 + 3, none⟩ = false := hz 3 (by show _ < 9; decide)
      have f4 : wr.frozen? ⟨b, off + i * 9 + 4, none⟩ = false := hz 4 (by show _ < 9; decide)
      have f5 : wr.frozen? ⟨b, off + i * 9 + 5, none⟩ = false := hz 5 (by show _ < 9; decide)
      have f6 : wr.frozen? ⟨b, off + i * 9 + 6, none⟩ = false := hz 6 (by show _ < 9; decide)
      have f7 : wr.frozen? ⟨b, off + i * 9 + 7, none⟩ = false := hz 7 (by show _ < 9; decide)
      have bl := blk z0
      have m0 : 0 < m := by omega
      have em : (mEquation m ((q00, q01), (q10, q11, q12, q13, q14, q15, q16))).2 = (mExprS (m + 1 + 1 + 1 + 1 + 1 + 1 + 1 + 1) q16).2 := rfl
      rw [em] at bd
      have bq16 := mExprS_mono (m + 1 + 1 + 1 + 1 + 1 + 1 + 1 + 1) q16
      have m1 : (mExprS (m + 1 + 1 + 1 + 1 + 1 + 1 + 1 + 1) q16).2 ≤ 4398046511104 := by have h := H1.out; have e : (mEquationS k xs).2 = (markL mEquation k xs).2 := rfl; omega
      have n0_1 := fun (W : World) (v : Value) => cell_setCell_ne (w := W) (b := b) (o := off + i * 9) (o' := off + i * 9 + 1) (v := v) (by omega)
      have n0_2 := fun (W : World) (v : Value) => cell_setCell_ne (w := W) (b := b) (o := off + i * 9) (o' := off + i * 9 + 2) (v := v) (by omega)
      have n0_3 := fun (W : World) (v : Value) => cell_setCell_ne (w := W) (b := b) (o := off + i * 9) (o' := off + i * 9 + 3) (v := v) (by omega)
      have n0_4 := fun (W : World) (v : Value) => cell_setCell_ne (w := W) (b := b) (o := off + i * 9) (o' := off + i * 9 + 4) (v := v) (by omega)
      have n0_5 := fun (W : World) (v : Value) => cell_setCell_ne (w := W) (b := b) (o := off + i * 9) (o' := off + i * 9 + 5) (v := v) (by omega)
      have n0_6 := fun (W : World) (v : Value) => cell_setCell_ne (w := W) (b := b) (o := off + i * 9) (o' := off + i * 9 + 6) (v := v) (by omega)
      have n0_7 := fun (W : World) (v : Value) => cell_setCell_ne (w := W) (b := b) (o := off + i * 9) (o' := off + i * 9 + 7) (v := v) (by omega)
      have n0_8 := fun (W : World) (v : Value) => cell_setCell_ne (w := W) (b := b) (o := off + i * 9) (o' := off + i * 9 + 8) (v := v) (by omega)
      have n1_0 := fun (W : World) (v : Value) => cell_setCell_ne (w := W) (b := b) (o := off + i * 9 + 1) (o' := off + i * 9) (v := v) (by omega)
      have n1_2 := fun (W : World) (v : Value) => cell_setCell_ne (w := W) (b := b) (o := off + i * 9 + 1) (o' := off + i * 9 + 2) (v := v) (by omega)
      have n1_3 := fun (W : World) (v : Value) => cell_setCell_ne (w := W) (b := b) (o := off + i * 9 + 1) (o' := off + i * 9 + 3) (v := v) (by omega)
      have n1_4 := fun (W : World) (v : Value) => cell_setCell_ne (w := W) (b := b) (o := off + i * 9 + 1) (o' := off + i * 9 + 4) (v := v) (by omega)
      have n1_5 := fun (W : World) (v : Value) => cell_setCell_ne (w := W) (b := b) (o := off + i * 9 + 1) (o' := off + i * 9 + 5) (v := v) (by omega)
      have n1_6 := fun (W : World) (v : Value) => cell_setCell_ne (w := W) (b := b) (o := off + i * 9 + 1) (o' := off + i * 9 + 6) (v := v) (by omega)
      have n1_7 := fun (W : World) (v : Value) => cell_setCell_ne (w := W) (b := b) (o := off + i * 9 + 1) (o' := off + i * 9 + 7) (v := v) (by omega)
      have n1_8 := fun (W : World) (v : Value) => cell_setCell_ne (w := W) (b := b) (o := off + i * 9 + 1) (o' := off + i * 9 + 8) (v := v) (by omega)
      have n2_0 := fun (W : World) (v : Value) => cell_setCell_ne (w := W) (b := b) (o := off + i * 9 + 2) (o' := off + i * 9) (v := v) (by omega)
      have n2_1 := fun (W : World) (v : Value) => cell_setCell_ne (w := W) (b := b) (o := off + i * 9 + 2) (o' := off + i * 9 + 1) (v := v) (by omega)
      have n2_3 := fun (W : World) (v : Value) => cell_setCell_ne (w := W) (b := b) (o := off + i * 9 + 2) (o' := off + i * 9 + 3) (v := v) (by omega)
      have n2_4 := fun (W : World) (v : Value) => cell_setCell_ne (w := W) (b := b) (o := off + i * 9 + 2) (o' := off + i * 9 + 4) (v := v) (by omega)
      have n2_5 := fun (W : World) (v : Value) => cell_setCell_ne (w := W) (b := b) (o := off + i * 9 + 2) (o' := off + i * 9 + 5) (v := v) (by omega)
      have n2_6 := fun (W : World) (v : Value) => cell_setCell_ne (w := W) (b := b) (o := off + i * 9 + 2) (o' := off + i * 9 + 6) (v := v) (by omega)
      have n2_7 := fun (W : World) (v : Value) => cell_setCell_ne (w := W) (b := b) (o := off + i * 9 + 2) (o' := off + i * 9 + 7) (v := v) (by omega)
      have n2_8 := fun (W : World) (v : Value) => cell_setCell_ne (w := W) (b := b) (o := off + i * 9 + 2) (o' := off + i * 9 + 8) (v := v) (by omega)
      have n3_0 := fun (W : World) (v : Value) => cell_setCell_ne (w := W) (b := b) (o := off + i * 9 + 3) (o' := off + i * 9) (v := v) (by omega)
      have n3_1 := fun (W : World) (v : Value) => cell_setCell_ne (w := W) (b := b) (o := off + i * 9 + 3) (o' := off + i * 9 + 1) (v := v) (by omega)
      have n3_2 := fun (W : World) (v : Value) => cell_setCell_ne (w := W) (b := b) (o := off + i * 9 + 3) (o' := off + i * 9 + 2) (v := v) (by omega)
      have n3_4 := fun (W : World) (v : Value) => cell_setCell_ne (w := W) (b := b) (o := off + i * 9 + 3) (o' := off + i * 9 + 4) (v := v) (by omega)
      have n3_5 := fun (W : World) (v : Value) => cell_setCell_ne (w := W) (b := b) (o := off + i * 9 + 3) (o' := off + i * 9 + 5) (v := v) (by omega)
      have n3_6 := fun (W : World) (v : Value) => cell_setCell_ne (w := W) (b := b) (o := off + i * 9 + 3) (o' := off + i * 9 + 6) (v := v) (by omega)
      have n3_7 := fun (W : World) (v : Value) => cell_setCell_ne (w := W) (b := b) (o := off + i * 9 + 3) (o' := off + i * 9 + 7) (v := v) (by omega)
      have n3_8 := fun (W : World) (v : Value) => cell_setCell_ne (w := W) (b := b) (o := off + i * 9 + 3) (o' := off + i * 9 + 8) (v := v) (by omega)
      have n4_0 := fun (W : World) (v : Value) => cell_setCell_ne (w := W) (b := b) (o := off + i * 9 + 4) (o' := off + i * 9) (v := v) (by omega)
      have n4_1 := fun (W : World) (v : Value) => cell_setCell_ne (w := W) (b := b) (o := off + i * 9 + 4) (o' := off + i * 9 + 1) (v := v) (by omega)
      have n4_2 := fun (W : World) (v : Value) => cell_setCell_ne (w := W) (b := b) (o := off + i * 9 + 4) (o' := off + i * 9 + 2) (v := v) (by omega)
      have n4_3 := fun (W : World) (v : Value) => cell_setCell_ne (w := W) (b := b) (o := off + i * 9 + 4) (o' := off + i * 9 + 3) (v := v) (by omega)
      have n4_5 := fun (W : World) (v : Value) => cell_setCell_ne (w := W) (b := b) (o := off + i * 9 + 4) (o' := off + i * 9 + 5) (v := v) (by omega)
      have n4_6 := fun (W : World) (v : Value) => cell_setCell_ne (w := W) (b := b) (o := off + i * 9 + 4) (o' := off + i * 9 + 6) (v := v) (by omega)
      have n4_7 := fun (W : World) (v : Value) => cell_setCell_ne (w := W) (b := b) (o := off + i * 9 + 4) (o' := off + i * 9 + 7) (v := v) (by omega)
      have n4_8 := fun (W : World) (v : Value) => cell_setCell_ne (w := W) (b := b) (o := off + i * 9 + 4) (o' := off + i * 9 + 8) (v := v) (by omega)
      have n5_0 := fun (W : World) (v : Value) => cell_setCell_ne (w := W) (b := b) (o := off + i * 9 + 5) (o' := off + i * 9) (v := v) (by omega)
      have n5_1 := fun (W : World) (v : Value) => cell_setCell_ne (w := W) (b := b) (o := off + i * 9 + 5) (o' := off + i * 9 + 1) (v := v) (by omega)
      have n5_2 := fun (W : World) (v : Value) => cell_setCell_ne (w := W) (b := b) (o := off + i * 9 + 5) (o' := off + i * 9 + 2) (v := v) (by omega)
      have n5_3 := fun (W : World) (v : Value) => cell_setCell_ne (w := W) (b := b) (o := off + i * 9 + 5) (o' := off + i * 9 + 3) (v := v) (by omega)
      have n5_4 := fun (W : World) (v : Value) => cell_setCell_ne (w := W) (b := b) (o := off + i * 9 + 5) (o' := off + i * 9 + 4) (v := v) (by omega)
      have n5_6 := fun (W : World) (v : Value) => cell_setCell_ne (w := W) (b := b) (o := off + i * 9 + 5) (o' := off + i * 9 + 6) (v := v) (by omega)
      have n5_7 := fun (W : World) (v : Value) => cell_setCell_ne (w := W) (b := b) (o := off + i * 9 + 5) (o' := off + i * 9 + 7) (v := v) (by omega)
      have n5_8 := fun (W : World) (v : Value) => cell_setCell_ne (w := W) (b := b) (o := off + i * 9 + 5) (o' := off + i * 9 + 8) (v := v) (by omega)
      have n6_0 := fun (W : World) (v : Value) => cell_setCell_ne (w := W) (b := b) (o := off + i * 9 + 6) (o' := off + i * 9) (v := v) (by omega)
      have n6_1 := fun (W : World) (v : Value) => cell_setCell_ne (w := W) (b := b) (o := off + i * 9 + 6) (o' := off + i * 9 + 1) (v := v) (by omega)
      have n6_2 := fun (W : World) (v : Value) => cell_setCell_ne (w := W) (b := b) (o := off + i * 9 + 6) (o' := off + i * 9 + 2) (v := v) (by omega)
      have n6_3 := fun (W : World) (v : Value) => cell_setCell_ne (w := W) (b := b) (o := off + i * 9 + 6) (o' := off + i * 9 + 3) (v := v) (by omega)
      have n6_4 := fun (W : World) (v : Value) => cell_setCell_ne (w := W) (b := b) (o := off + i * 9 + 6) (o' := off + i * 9 + 4) (v := v) (by omega)
      have n6_5 := fun (W : World) (v : Value) => cell_setCell_ne (w := W) (b := b) (o := off + i * 9 + 6) (o' := off + i * 9 + 5) (v := v) (by omega)
      have n6_7 := fun (W : World) (v : Value) => cell_setCell_ne (w := W) (b := b) (o := off + i * 9 + 6) (o' := off + i * 9 + 7) (v := v) (by omega)
      have n6_8 := fun (W : World) (v : Value) => cell_setCell_ne (w := W) (b := b) (o := off + i * 9 + 6) (o' := off + i * 9 + 8) (v := v) (by omega)
      have n7_0 := fun (W : World) (v : Value) => cell_setCell_ne (w := W) (b := b) (o := off + i * 9 + 7) (o' := off + i * 9) (v := v) (by omega)
      have n7_1 := fun (W : World) (v : Value) => cell_setCell_ne (w := W) (b := b) (o := off + i * 9 + 7) (o' := off + i * 9 + 1) (v := v) (by omega)
      have n7_2 := fun (W : World) (v : Value) => cell_setCell_ne (w := W) (b := b) (o := off + i * 9 + 7) (o' := off + i * 9 + 2) (v := v) (by omega)
      have n7_3 := fun (W : World) (v : Value) => cell_setCell_ne (w := W) (b := b) (o := off + i * 9 + 7) (o' := off + i * 9 + 3) (v := v) (by omega)
      have n7_4 := fun (W : World) (v : Value) => cell_setCell_ne (w := W) (b := b) (o := off + i * 9 + 7) (o' := off + i * 9 + 4) (v := v) (by omega)
      have n7_5 := fun (W : World) (v : Value) => cell_setCell_ne (w := W) (b := b) (o := off + i * 9 + 7) (o' := off + i * 9 + 5) (v := v) (by omega)
      have n7_6 := fun (W : World) (v : Value) => cell_setCell_ne (w := W) (b := b) (o := off + i * 9 + 7) (o' := off + i * 9 + 6) (v := v) (by omega)
      have n7_8 := fun (W : World) (v : Value) => cell_setCell_ne (w := W) (b := b) (o := off + i * 9 + 7) (o' := off + i * 9 + 8) (v := v) (by omega)
      have fz := fun (W : World) (o o' : Nat) (v : Value) => (frozen_setCell' : (W.setCell ⟨b, o, none⟩ v).frozen? ⟨b, o', none⟩ = W.frozen? ⟨b, o', none⟩)
      have Hq00 := Lib.hid (wf_mark (y := m) (by omega) (by omega))
      have Hq01 := Lib.hid (mtx_size (m + 1) (by omega))
      have Hq10 := Lib.hid (wf_mark (y := m + 1 + 1) (by omega) (by omega))
      have Hq11 := Lib.hid (wf_mark (y := m + 1 + 1 + 1) (by omega) (by omega))
      have Hq12 := Lib.hid (wf_mark (y := m + 1 + 1 + 1 + 1) (by omega) (by omega))
      have Hq13 := Lib.hid (wf_mark (y := m + 1 + 1 + 1 + 1 + 1) (by omega) (by omega))
      have Hq14 := Lib.hid (mtx_size (m + 1 + 1 + 1 + 1 + 1 + 1) (by omega))
      have Hq15 := Lib.hid (mtx_size (m + 1 + 1 + 1 + 1 + 1 + 1 + 1) (by omega))
      have N0 : (fq16).Nodup := by simpa only [List.nil_append, List.append_nil] using hnq
      have M0 : b ∉ fq16 := by simpa only [List.nil_append, List.append_nil] using hbn
      have uq16 := N0
      have dq16 : b ∉ fq16 := fun h => M0 (by simp [h])
      have Sq16 := Lib.hid hq16
      obtain ⟨aaq16, ccq16, rfl, -, -, -⟩ := hq16.open
      have Hdq16 := Lib.hid dq16
      have Huq16 := Lib.hid uq16
      clear dq16 uq16 M0 N0  hq16
      clear hc hz hput bd2 g3 em hy hr hcs hq00 hq01 hq10 hq11 hq12 hq13 hq14 hq15
      have Hbn := Lib.hid hbn
      have Hnq := Lib.hid hnq
      have Hsub := Lib.hid hsub
      clear hbn hnq hsub
      go_wp2_with fail
      refine (markText_any (m + 1) _ (by omega) (by omega)).mono ?_
      rintro e w1 ⟨rfl, x1, rfl⟩
      go_wp2_with fail
      refine (markText_any (m + 1 + 1 + 1 + 1 + 1 + 1) _ (by omega) (by omega)).mono ?_
      rintro e w6 ⟨rfl, x6, rfl⟩
      go_wp2_with fail
      refine (markText_any (m + 1 + 1 + 1 + 1 + 1 + 1 + 1) _ (by omega) (by omega)).mono ?_
      rintro e w7 ⟨rfl, x7, rfl⟩
      go_wp2_with fail
      refine (markExprS_any fq16 _ q16 (m + 1 + 1 + 1 + 1 + 1 + 1 + 1 + 1) _ ((SlR.wr Sq16.out (fp := [b]) (by repeat (first | with_reducible refine Wr.setCell ?_ (by simp) _ | with_reducible refine Wr.gr ?_ (Gr.ext (Gr.refl _) _) | exact Wr.refl _ _)) (by have := Hdq16.out; intro c hc hcb; simp at hcb; subst hcb; exact this hc))) Huq16.out (by omega) (by show (mExprS (m + 1 + 1 + 1 + 1 + 1 + 1 + 1 + 1) q16).2 ≤ _; omega)).mono ?_
      rintro e y8 ⟨rfl, t8, r8⟩
      have T8 := Lib.hid t8
      have R8 := Lib.hid r8
      clear t8 r8
      have F8 := Lib.hid (Foc.inner (b := b) (lo := off + i * Rd.n (GEquation d)) (n := Rd.n (GEquation d)) (fq := (([] ++ []) ++ ([] ++ ([] ++ ([] ++ ([] ++ ([] ++ ([] ++ fq16)))))))) (w := wr) (by repeat (first | with_reducible refine Foc.set ?_ (by simp [Rd.n] <;> omega) (by simp [Rd.n] <;> omega) _ | with_reducible refine Foc.gr ?_ bl (Gr.ext (Gr.refl _) _) | exact Foc.refl _ _ _ _ _)) bl R8.out (by intro c hc; simp [hc]) Hdq16.out)
      have Sq16x8 := T8
      have e8 := R8.out.block b (Nat.lt_of_lt_of_le bl (Foc.wr (b := b) (lo := off + i * Rd.n (GEquation d)) (n := Rd.n (GEquation d)) (fq := (([] ++ []) ++ ([] ++ ([] ++ ([] ++ ([] ++ ([] ++ ([] ++ fq16)))))))) (w := wr) (by repeat (first | with_reducible refine Foc.set ?_ (by simp [Rd.n] <;> omega) (by simp [Rd.n] <;> omega) _ | with_reducible refine Foc.gr ?_ bl (Gr.ext (Gr.refl _) _) | exact Foc.refl _ _ _ _ _))).size) Hdq16.out
      have c8 := fun (o : Nat) => World.cell?_of_block (a := ⟨b, o, none⟩) e8
      have z0x8 : y8.cell? ⟨b, off + i * 9, none⟩ = some (.int .i64 (m)) := (c8 _).trans (by go_simp)
      have z1x8 : y8.cell? ⟨b, off + i * 9 + 1, none⟩ = some (.string (mtx (m + 1))) := (c8 _).trans (by go_simp)
      have z2x8 : y8.cell? ⟨b, off + i * 9 + 2, none⟩ = some (.int .i64 (m + 1 + 1)) := (c8 _).trans (by go_simp)
      have z3x8 : y8.cell? ⟨b, off + i * 9 + 3, none⟩ = some (.int .i64 (m + 1 + 1 + 1)) := (c8 _).trans (by go_simp)
      have z4x8 : y8.cell? ⟨b, off + i * 9 + 4, none⟩ = some (.int .i64 (m + 1 + 1 + 1 + 1)) := (c8 _).trans (by go_simp)
      have z5x8 : y8.cell? ⟨b, off + i * 9 + 5, none⟩ = some (.int .i64 (m + 1 + 1 + 1 + 1 + 1)) := (c8 _).trans (by go_simp)
      have z6x8 : y8.cell? ⟨b, off + i * 9 + 6, none⟩ = some (.string (mtx (m + 1 + 1 + 1 + 1 + 1 + 1))) := (c8 _).trans (by go_simp)
      have z7x8 : y8.cell? ⟨b, off + i * 9 + 7, none⟩ = some (.string (mtx (m + 1 + 1 + 1 + 1 + 1 + 1 + 1))) := (c8 _).trans (by go_simp)
      have z8x8 : y8.cell? ⟨b, off + i * 9 + 8, none⟩ = some (.slice aaq16 q16.length ccq16) := (c8 _).trans (by go_simp)
      have s8 := R8.out.size
      clear e8 c8 z0 z1 z2 z3 z4 z5 z6 z7 z8
      clear fz n0_1 n0_2 n0_3 n0_4 n0_5 n0_6 n0_7 n0_8 n1_0 n1_2 n1_3 n1_4 n1_5 n1_6 n1_7 n1_8 n2_0 n2_1 n2_3 n2_4 n2_5 n2_6 n2_7 n2_8 n3_0 n3_1 n3_2 n3_4 n3_5 n3_6 n3_7 n3_8 n4_0 n4_1 n4_2 n4_3 n4_5 n4_6 n4_7 n4_8 n5_0 n5_1 n5_2 n5_3 n5_4 n5_6 n5_7 n5_8 n6_0 n6_1 n6_2 n6_3 n6_4 n6_5 n6_7 n6_8 n7_0 n7_1 n7_2 n7_3 n7_4 n7_5 n7_6 n7_8 f0 f1 f2 f3 f4 f5 f6 f7
      go_wp2_with fail
      refine ⟨⟨i + 1, (mExprS (m + 1 + 1 + 1 + 1 + 1 + 1 + 1 + 1) q16).2, by omega, Lib.hid ?_, ?_, ?_, by go_num, rfl⟩, by simp [intOf]; omega⟩
      · rw [markK_succ mEquation k xs hlt, ← hm.out, ← HY.out]; rfl
      · rw [markT_succ mEquation k xs hlt, ← hm.out, ← HY.out]
        refine HP.out _ [.int .i64 (m), .string (mtx (m + 1)), .int .i64 (m + 1 + 1), .int .i64 (m + 1 + 1 + 1), .int .i64 (m + 1 + 1 + 1 + 1), .int .i64 (m + 1 + 1 + 1 + 1 + 1), .string (mtx (m + 1 + 1 + 1 + 1 + 1 + 1)), .string (mtx (m + 1 + 1 + 1 + 1 + 1 + 1 + 1)), .slice aaq16 q16.length ccq16] (mEquation m ((q00, q01), (q10, q11, q12, q13, q14, q15, q16))).1 (by repeat (first | with_reducible refine Foc.set ?_ (by simp [Rd.n] <;> omega) (by simp [Rd.n] <;> omega) _ | with_reducible refine Foc.gr ?_ bl (Gr.ext (Gr.refl _) _) | exact F8.out)) (fun j v hj => ?_) (rdEquation_mk (m) (mtx (m + 1)) (m + 1 + 1) (m + 1 + 1 + 1) (m + 1 + 1 + 1 + 1) (m + 1 + 1 + 1 + 1 + 1) (mtx (m + 1 + 1 + 1 + 1 + 1 + 1)) (mtx (m + 1 + 1 + 1 + 1 + 1 + 1 + 1)) ((mExprS (m + 1 + 1 + 1 + 1 + 1 + 1 + 1 + 1) q16).1) Hq00.out Hq01.out Hq10.out Hq11.out Hq12.out Hq13.out Hq14.out Hq15.out (SlR.wr Sq16x8.out (fp := [b]) (by repeat (first | with_reducible refine Wr.setCell ?_ (by simp) _ | with_reducible refine Wr.gr ?_ (Gr.ext (Gr.refl _) _) | exact Wr.refl _ _)) (by have := Hdq16.out; intro c hc hcb; simp at hcb; subst hcb; exact this hc)))
        have en : off + i * Rd.n (GEquation d) = off + i * 9 := rfl
        rw [en]
        match j, hj with
        | 0, hj => obtain rfl := Option.some.inj hj; exact z0x8
        | 1, hj => obtain rfl := Option.some.inj hj; exact z1x8
        | 2, hj => obtain rfl := Option.some.inj hj; exact z2x8
        | 3, hj => obtain rfl := Option.some.inj hj; exact z3x8
        | 4, hj => obtain rfl := Option.some.inj hj; exact z4x8
        | 5, hj => obtain rfl := Option.some.inj hj; exact z5x8
        | 6, hj => obtain rfl := Option.some.inj hj; exact z6x8
        | 7, hj => obtain rfl := Option.some.inj hj; exact z7x8
        | 8, hj => obtain rfl := Option.some.inj hj; exact z8x8
      · exact HW.out.trans (Wr.sub (Foc.wr (b := b) (lo := off + i * Rd.n (GEquation d)) (n := Rd.n (GEquation d)) (fq := (([] ++ []) ++ ([] ++ ([] ++ ([] ++ ([] ++ ([] ++ ([] ++ fq16)))))))) (by repeat (first | with_reducible refine Foc.set ?_ (by simp [Rd.n] <;> omega) (by simp [Rd.n] <;> omega) _ | with_reducible refine Foc.gr ?_ bl (Gr.ext (Gr.refl _) _) | exact F8.out))) (fun c hc => by
          rcases List.mem_cons.1 hc with rfl | hc
          · exact hbm
          · exact Hsub.out c hc))
    · have hk2 : i = xs.length := by omega
      subst hk2
      have hs2 := HS.out
      rw [markT_all] at hs2
      have hm2 := hm.out
      rw [List.take_length] at hm2
      have HS2 := Lib.hid hs2
      have HM2 := Lib.hid hm2
      clear hs2 hm2 HS hm
      go_wp2
      go_ret
      exact ⟨ret_int HM2.out, HS2.out, HW.out⟩

end Go.Proofs.YtbfmeiooeaaibaaGreat

namespace Go.Proofs.YtbfmeiooeaaibaaGreat
open Go.RowKit
set_option linter.unusedVariables false
variable {d : Nat}

/-- The marks of an element. -/
def mContribution (k : Int) : (GContribution d) → (GContribution d) × Int
  | (_, _, (_, _, _, _, _, _, q26), (_, _, _, _, _, _, q36)) => ((mtx (k), mtx (k + 1), (k + 1 + 1, k + 1 + 1 + 1, k + 1 + 1 + 1 + 1, k + 1 + 1 + 1 + 1 + 1, mtx (k + 1 + 1 + 1 + 1 + 1 + 1), mtx (k + 1 + 1 + 1 + 1 + 1 + 1 + 1), (mExprS (k + 1 + 1 + 1 + 1 + 1 + 1 + 1 + 1) q26).1), ((mExprS (k + 1 + 1 + 1 + 1 + 1 + 1 + 1 + 1) q26).2, (mExprS (k + 1 + 1 + 1 + 1 + 1 + 1 + 1 + 1) q26).2 + 1, (mExprS (k + 1 + 1 + 1 + 1 + 1 + 1 + 1 + 1) q26).2 + 1 + 1, (mExprS (k + 1 + 1 + 1 + 1 + 1 + 1 + 1 + 1) q26).2 + 1 + 1 + 1, mtx ((mExprS (k + 1 + 1 + 1 + 1 + 1 + 1 + 1 + 1) q26).2 + 1 + 1 + 1 + 1), mtx ((mExprS (k + 1 + 1 + 1 + 1 + 1 + 1 + 1 + 1) q26).2 + 1 + 1 + 1 + 1 + 1), (mExprS ((mExprS (k + 1 + 1 + 1 + 1 + 1 + 1 + 1 + 1) q26).2 + 1 + 1 + 1 + 1 + 1 + 1) q36).1)), (mExprS ((mExprS (k + 1 + 1 + 1 + 1 + 1 + 1 + 1 + 1) q26).2 + 1 + 1 + 1 + 1 + 1 + 1) q36).2)
theorem mContribution_bd (k : Int) (x : (GContribution d)) : k ≤ (mContribution k x).2 ∧ (mContribution k x).2 ≤ k + 16 * (1 + wtContribution x) := by
  obtain ⟨q0, q1, ⟨q20, q21, q22, q23, q24, q25, q26⟩, ⟨q30, q31, q32, q33, q34, q35, q36⟩⟩ := x
  have bq26 := mExprS_bd (k + 1 + 1 + 1 + 1 + 1 + 1 + 1 + 1) q26
  have bq36 := mExprS_bd ((mExprS (k + 1 + 1 + 1 + 1 + 1 + 1 + 1 + 1) q26).2 + 1 + 1 + 1 + 1 + 1 + 1) q36
  have hw2 : wtExpr (q20, q21, q22, q23, q24, q25, q26) = (q24.size) + (q25.size) + (wtExprS q26) := rfl
  have hw3 : wtExpr (q30, q31, q32, q33, q34, q35, q36) = (q34.size) + (q35.size) + (wtExprS q36) := rfl
  have hw : wtContribution (q0, q1, (q20, q21, q22, q23, q24, q25, q26), (q30, q31, q32, q33, q34, q35, q36)) = (q0.size) + (q1.size) + (wtExpr (q20, q21, q22, q23, q24, q25, q26)) + (wtExpr (q30, q31, q32, q33, q34, q35, q36)) := rfl
  simp only [mContribution] at *
  omega
theorem mContribution_mono (k : Int) (x : (GContribution d)) : k ≤ (mContribution k x).2 := (mContribution_bd k x).1
def mContributionS (k : Int) (x : List (GContribution d)) : List (GContribution d) × Int := markL mContribution k x
theorem mContributionS_len (k : Int) (x : List (GContribution d)) : (mContributionS k x).1.length = x.length := markL_len _ _ _
theorem mContributionS_bd (k : Int) (x : List (GContribution d)) : k ≤ (mContributionS k x).2 ∧ (mContributionS k x).2 ≤ k + 16 * wtContributionS x := by
  have := markL_bd mContribution wtContribution mContribution_bd x k
  unfold mContributionS wtContributionS
  exact this
theorem mContributionS_mono (k : Int) (x : List (GContribution d)) : k ≤ (mContributionS k x).2 := (mContributionS_bd k x).1

set_option maxRecDepth 10000 in
set_option maxHeartbeats 16000000 in
theorem markContributionS_any (fp : List Nat) (u : Value) (xs : List (GContribution d)) (k : Int) (w : World) (hu : SlR fp w u xs) (hnd : fp.Nodup) (h0 : 0 < k) (h1 : (mContributionS k xs).2 ≤ 4398046511104) :
    Calls Tryz.prog 104 #[u, .int .i64 k] w fun e w' => e = .returned (.int .i64 (mContributionS k xs).2) ∧ SlR fp w' u (mContributionS k xs).1 ∧ Wr fp w w' := by
  obtain ⟨a, ca, rfl, g1, g2, g3⟩ := hu.open
  have H1 := Lib.hid h1
  clear h1
  go_enter Tryz.func104, Tryz.ntmps104
  go_wp2
  go_loopw [5, 1] (fun s5 s1 wr => ∃ (i : Nat) (m : Int), i ≤ xs.length ∧ Hid (m = (markL mContribution k (xs.take i)).2) ∧ SlR fp wr (.slice a xs.length ca) (markT mContribution k xs i) ∧ Wr fp w wr ∧ s5 = .int .i64 i ∧ s1 = .int .i64 m) (fun s5 _ _ => xs.length - (intOf s5).toNat)
  case atStart => exact ⟨0, k, by omega, Lib.hid (by simp [markL]), by rw [markT_zero]; exact hu, Wr.refl _ _, rfl, rfl⟩
  case round =>
    obtain ⟨i, m, hi, hm, hs, hW, rfl, rfl⟩ := hrel
    have HS := Lib.hid hs
    have HW := Lib.hid hW
    clear hs hW
    by_cases hlt : i < xs.length
    · obtain ⟨b, off, rfl, hb⟩ := g3 i hlt
      have hlt' : i < (markT mContribution k xs i).length := by rw [markT_len]; exact hlt
      obtain ⟨cs, fq, hc, hr, hsub, hbm, hbn, hnq, hz, hput⟩ := HS.out.focus hnd hlt'
      have HP := Lib.hid hput
      rw [markT_at mContribution k xs hlt] at hr
      obtain ⟨y, hy⟩ : ∃ y, y = xs[i] := ⟨_, rfl⟩
      rw [← hy] at hr
      have HY := Lib.hid hy
      have bd := markL_take mContribution mContribution_mono k xs (i + 1)
      have bd2 := markL_take mContribution mContribution_mono k xs i
      rw [markK_succ mContribution k xs hlt, ← hm.out, ← hy] at bd
      rw [← hm.out] at bd2
      obtain ⟨q0, q1, ⟨q20, q21, q22, q23, q24, q25, q26⟩, ⟨q30, q31, q32, q33, q34, q35, q36⟩⟩ := y
      obtain ⟨vq26, fq26, vq36, fq36, hcs, hfq, hq0, hq1, hq20, hq21, hq22, hq23, hq24, hq25, hq26, hq30, hq31, hq32, hq33, hq34, hq35, hq36⟩ := rdContribution_inv (cs := cs.toArray) q0 q1 q20 q21 q22 q23 q24 q25 q26 q30 q31 q32 q33 q34 q35 q36 (by simpa using hr)
      obtain rfl : cs = [.string q0, .string q1, .int .i64 q20, .int .i64 q21, .int .i64 q22, .int .i64 q23, .string q24, .string q25, vq26, .int .i64 q30, .int .i64 q31, .int .i64 q32, .int .i64 q33, .string q34, .string q35, vq36] := by have := congrArg Array.toList hcs; simpa using this
      rw [hfq] at hsub hbn hnq HP hput hr
      clear hfq
      have z0 : wr.cell? ⟨b, off + i * 16, none⟩ = some (.string q0) := by simpa [Rd.n] using hc 0 _ rfl
      have z1 : wr.cell? ⟨b, off + i * 16 + 1, none⟩ = some (.string q1) := hc 1 _ rfl
      have z2 : wr.cell? ⟨b, off + i * 16 + 2, none⟩ = some (.int .i64 q20) := hc 2 _ rfl
      have z3 : wr.cell? ⟨b, off + i * 16 + 3, none⟩ = some (.int .i64 q21) := hc 3 _ rfl
      have z4 : wr.cell? ⟨b, off + i * 16 + 4, none⟩ = some (.int .i64 q22) := hc 4 _ rfl
      have z5 : wr.cell? ⟨b, off + i * 16 + 5, none⟩ = some (.int .i64 q23) := hc 5 _ rfl
      have z6 : wr.cell? ⟨b, off + i * 16 + 6, none⟩ = some (.string q24) := hc 6 _ rfl
      have z7 : wr.cell? ⟨b, off + i * 16 + 7, none⟩ = some (.string q25) := hc 7 _ rfl
      have z8 : wr.cell? ⟨b, off + i * 16 + 8, none⟩ = some (vq26) := hc 8 _ rfl
      have z9 : wr.cell? ⟨b, off + i * 16 + 9, none⟩ = some (.int .i64 q30) := hc 9 _ rfl
      have z10 : wr.cell? ⟨b, off + i * 16 + 10, none⟩ = some (.int .i64 q31) := hc 10 _ rfl
      have z11 : wr.cell? ⟨b, off + i * 16 + 11, none⟩ = some (.int .i64 q32) := hc 11 _ rfl
      have z12 : wr.cell? ⟨b, off + i * 16 + 12, none⟩ = some (.int .i64 q33) := hc 12 _ rfl
      have z13 : wr.cell? ⟨b, off + i * 16 + 13, none⟩ = some (.string q34) := hc 13 _ rfl
      have z14 : wr.cell? ⟨b, off + i * 16 + 14, none⟩ = some (.string q35) := hc 14 _ rfl
      have z15 : wr.cell? ⟨b, off + i * 16 + 15, none⟩ = some (vq36) := hc 15 _ rfl
      have f0 : wr.frozen? ⟨b, off + i * 16, none⟩ = false := by simpa [Rd.n] using hz 0 (by show _ < 16; decide)
      have f1 : wr.frozen? ⟨b, off + i * 16 + 1, none⟩ = false := hz 1 (by show _ < 16; decide)
      have f2 : wr.frozen? ⟨b, off + i * 16 + 2, none⟩ = false := hz 2 (by show _ < 16; decide)
      have f3 : wr.frozen? ⟨b, off + i * 16 + 3, none⟩ = false := hz 3 (by show _ < 16; decide)
      have f4 : wr.frozen? ⟨b, off + i * 16 + 4, none⟩ = false := hz 4 (by show _ < 16; decide)
      have f5 : wr.frozen? ⟨b, off + i * 16 + 5, none⟩ = false := hz 5 (by show _ < 16; decide)
      have f6 : wr.frozen? ⟨b, off + i * 16 + 6, none⟩ = false := hz 6 (by show _ < 16; decide)
      have f7 : wr.frozen? ⟨b, off + i * 16 + 7, none⟩ = false := hz 7 (by show _ < 16; decide)
      have f9 : wr.frozen? ⟨b, off + i * 16 + 9, none⟩ = false := hz 9 (by show _ < 16; decide)
      have f10 : wr.frozen? ⟨b, off + i * 16 + 10, none⟩ = false := hz 10 (by show _ < 16; decide)
      have f11 : wr.frozen? ⟨b, off + i * 16 + 11, none⟩ = false := hz 11 (by show _ < 16; decide)
      have f12 : wr.frozen? ⟨b, off + i * 16 + 12, none⟩ = false := hz 12 (by show _ < 16; decide)
      have f13 : wr.frozen? ⟨b, off + i * 16 + 13, none⟩ = false := hz 13 (by show _ < 16; decide)
      have f14 : wr.frozen? ⟨b, off + i * 16 + 14, none⟩ = false := hz 14 (by show _ < 16; decide)
      have bl := blk z0
      have m0 : 0 < m := by omega
      have em : (mContribution m (q0, q1, (q20, q21, q22, q23, q24, q25, q26), (q30, q31, q32, q33, q34, q35, q36))).2 = (mExprS ((mExprS (m + 1 + 1 + 1 + 1 + 1 + 1 + 1 + 1) q26).2 + 1 + 1 + 1 + 1 + 1 + 1) q36).2 := rfl
      rw [em] at bd
      have bq26 := mExprS_mono (m + 1 + 1 + 1 + 1 + 1 + 1 + 1 + 1) q26
      have bq36 := mExprS_mono ((mExprS (m + 1 + 1 + 1 + 1 + 1 + 1 + 1 + 1) q26).2 + 1 + 1 + 1 + 1 + 1 + 1) q36
      have m1 : (mExprS ((mExprS (m + 1 + 1 + 1 + 1 + 1 + 1 + 1 + 1) q26).2 + 1 + 1 + 1 + 1 + 1 + 1) q36).2 ≤ 4398046511104 := by have h := H1.out; have e : (mContributionS k xs).2 = (markL mContribution k xs).2 := rfl; omega
      have n0_1 := fun (W : World) (v : Value) => cell_setCell_ne (w := W) (b := b) (o := off + i * 16) (o' := off + i * 16 + 1) (v := v) (by omega)
      have n0_2 := fun (W : World) (v : Value) => cell_setCell_ne (w := W) (b := b) (o := off + i * 16) (o' := off + i * 16 + 2) (v := v) (by omega)
      have n0_3 := fun (W : World) (v : Value) => cell_setCell_ne (w := W) (b := b) (o := off + i * 16) (o' := off + i * 16 + 3) (v := v) (by omega)
      have n0_4 := fun (W : World) (v : Value) => cell_setCell_ne (w := W) (b := b) (o := off + i * 16) (o' := off + i * 16 + 4) (v := v) (by omega)
      have n0_5 := fun (W : World) (v : Value) => cell_setCell_ne (w := W) (b := b) (o := off + i * 16) (o' := off + i * 16 + 5) (v := v) (by omega)
      have n0_6 := fun (W : World) (v : Value) => cell_setCell_ne (w := W) (b := b) (o := off + i * 16) (o' := off + i * 16 + 6) (v := v) (by omega)
      have n0_7 := fun (W : World) (v : Value) => cell_setCell_ne (w := W) (b := b) (o := off + i * 16) (o' := off + i * 16 + 7) (v := v) (by omega)
      have n0_8 := fun (W : World) (v : Value) => cell_setCell_ne (w := W) (b := b) (o := off + i * 16) (o' := off + i * 16 + 8) (v := v) (by omega)
      have n0_9 := fun (W : World) (v : Value) => cell_setCell_ne (w := W) (b := b) (o := off + i * 16) (o' := off + i * 16 + 9) (v := v) (by omega)
      have n0_10 := fun (W : World) (v : Value) => cell_setCell_ne (w := W) (b := b) (o := off + i * 16) (o' := off + i * 16 + 10) (v := v) (by omega)
      have n0_11 := fun (W : World) (v : Value) => cell_setCell_ne (w := W) (b := b) (o := off + i * 16) (o' := off + i * 16 + 11) (v := v) (by omega)
      have n0_12 := fun (W : World) (v : Value) => cell_setCell_ne (w := W) (b := b) (o := off + i * 16) (o' := off + i * 16 + 12) (v := v) (by omega)
      have n0_13 := fun (W : World) (v : Value) => cell_setCell_ne (w := W) (b := b) (o := off + i * 16) (o' := off + i * 16 + 13) (v := v) (by omega)
      have n0_14 := fun (W : World) (v : Value) => cell_setCell_ne (w := W) (b := b) (o := off + i * 16) (o' := off + i * 16 + 14) (v := v) (by omega)
      have n0_15 := fun (W : World) (v : Value) => cell_setCell_ne (w := W) (b := b) (o := off + i * 16) (o' := off + i * 16 + 15) (v := v) (by omega)
      have n1_0 := fun (W : World) (v : Value) => cell_setCell_ne (w := W) (b := b) (o := off + i * 16 + 1) (o' := off + i * 16) (v := v) (by omega)
      have n1_2 := fun (W : World) (v : Value) => cell_setCell_ne (w := W) (b := b) (o := off + i * 16 + 1) (o' := off + i * 16 + 2) (v := v) (by omega)
      have n1_3 := fun (W : World) (v : Value) => cell_setCell_ne (w := W) (b := b) (o := off + i * 16 + 1) (o' := off + i * 16 + 3) (v := v) (by omega)
      have n1_4 := fun (W : World) (v : Value) => cell_setCell_ne (w := W) (b := b) (o := off + i * 16 + 1) (o' := off + i * 16 + 4) (v := v) (by omega)
      have n1_5 := fun (W : World) (v : Value) => cell_setCell_ne (w := W) (b := b) (o := off + i * 16 + 1) (o' := off + i * 16 + 5) (v := v) (by omega)
      have n1_6 := fun (W : World) (v : Value) => cell_setCell_ne (w := W) (b := b) (o := off + i * 16 + 1) (o' := off + i * 16 + 6) (v := v) (by omega)
      have n1_7 := fun (W : World) (v : Value) => cell_setCell_ne (w := W) (b := b) (o := off + i * 16 + 1) (o' := off + i * 16 + 7) (v := v) (by omega)
      have n1_8 := fun (W : World) (v : Value) => cell_setCell_ne (w := W) (b := b) (o := off + i * 16 + 1) (o' := off + i * 16 + 8) (v := v) (by omega)
      have n1_9 := fun (W : World) (v : Value) => cell_setCell_ne (w := W) (b := b) (o := off + i * 16 + 1) (o' := off + i * 16 + 9) (v := v) (by omega)
      have n1_10 := fun (W : World) (v : Value) => cell_setCell_ne (w := W) (b := b) (o := off + i * 16 + 1) (o' := off + i * 16 + 10) (v := v) (by omega)
      have n1_11 := fun (W : World) (v : Value) => cell_setCell_ne (w := W) (b := b) (o := off + i * 16 + 1) (o' := off + i * 16 + 11) (v := v) (by omega)
      have n1_12 := fun (W : World) (v : Value) => cell_setCell_ne (w := W) (b := b) (o := off + i * 16 + 1) (o' := off + i * 16 + 12) (v := v) (by omega)
      have n1_13 := fun (W : World) (v : Value) => cell_setCell_ne (w := W) (b := b) (o := off + i * 16 + 1) (o' := off + i * 16 + 13) (v := v) (by omega)
      have n1_14 := fun (W : World) (v : Value) => cell_setCell_ne (w := W) (b := b) (o := off + i * 16 + 1) (o' := off + i * 16 + 14) (v := v) (by omega)
      have n1_15 := fun (W : World) (v : Value) => cell_setCell_ne (w := W) (b := b) (o := off + i * 16 + 1) (o' := off + i * 16 + 15) (v := v) (by omega)
      have n2_0 := fun (W : World) (v : Value) => cell_setCell_ne (w := W) (b := b) (o := off + i * 16 + 2) (o' := off + i * 16) (v := v) (by omega)
      have n2_1 := fun (W : World) (v : Value) => cell_setCell_ne (w := W) (b := b) (o := off + i * 16 + 2) (o' := off + i * 16 + 1) (v := v) (by omega)
      have n2_3 := fun (W : World) (v : Value) => cell_setCell_ne (w := W) (b := b) (o := off + i * 16 + 2) (o' := off + i * 16 + 3) (v := v) (by omega)
      have n2_4 := fun (W : World) (v : Value) => cell_setCell_ne (w := W) (b := b) (o := off + i * 16 + 2) (o' := off + i * 16 + 4) (v := v) (by omega)
      have n2_5 := fun (W : World) (v : Value) => cell_setCell_ne (w := W) (b := b) (o := off + i * 16 + 2) (o' := off + i * 16 + 5) (v := v) (by omega)
      have n2_6 := fun (W : World) (v : Value) => cell_setCell_ne (w := W) (b := b) (o := off + i * 16 + 2) (o' := off + i * 16 + 6) (v := v) (by omega)
      have n2_7 := fun (W : World) (v : Value) => cell_setCell_ne (w := W) (b := b) (o := off + i * 16 + 2) (o' := off + i * 16 + 7) (v := v) (by omega)
      have n2_8 := fun (W : World) (v : Value) => cell_setCell_ne (w := W) (b := b) (o := off + i * 16 + 2) (o' := off + i * 16 + 8) (v := v) (by omega)
      have n2_9 := fun (W : World) (v : Value) => cell_setCell_ne (w := W) (b := b) (o := off + i * 16 + 2) (o' := off + i * 16 + 9) (v := v) (by omega)
      have n2_10 := fun (W : World) (v : Value) => cell_setCell_ne (w := W) (b := b) (o := off + i * 16 + 2) (o' := off + i * 16 + 10) (v := v) (by omega)
      have n2_11 := fun (W : World) (v : Value) => cell_setCell_ne (w := W) (b := b) (o := off + i * 16 + 2) (o' := off + i * 16 + 11) (v := v) (by omega)
      have n2_12 := fun (W : World) (v : Value) => cell_setCell_ne (w := W) (b := b) (o := off + i * 16 + 2) (o' := off + i * 16 + 12) (v := v) (by omega)
      have n2_13 := fun (W : World) (v : Value) => cell_setCell_ne (w := W) (b := b) (o := off + i * 16 + 2) (o' := off + i * 16 + 13) (v := v) (by omega)
      have n2_14 := fun (W : World) (v : Value) => cell_setCell_ne (w := W) (b := b) (o := off + i * 16 + 2) (o' := off + i * 16 + 14) (v := v) (by omega)
      have n2_15 := fun (W : World) (v : Value) => cell_setCell_ne (w := W) (b := b) (o := off + i * 16 + 2) (o' := off + i * 16 + 15) (v := v) (by omega)
      have n3_0 := fun (W : World) (v : Value) => cell_setCell_ne (w := W) (b := b) (o := off + i * 16 + 3) (o' := off + i * 16) (v := v) (by omega)
      have n3_1 := fun (W : World) (v : Value) => cell_setCell_ne (w := W) (b := b) (o := off + i * 16 + 3) (o' := off + i * 16 + 1) (v := v) (by omega)
      have n3_2 := fun (W : World) (v : Value) => cell_setCell_ne (w := W) (b := b) (o := off + i * 16 + 3) (o' := off + i * 16 + 2) (v := v) (by omega)
      have n3_4 := fun (W : World) (v : Value) => cell_setCell_ne (w := W) (b := b) (o := off + i * 16 + 3) (o' := off + i * 16 + 4) (v := v) (by omega)
      have n3_5 := fun (W : World) (v : Value) => cell_setCell_ne (w := W) (b := b) (o := off + i * 16 + 3) (o' := off + i * 16 + 5) (v := v) (by omega)
      have n3_6 := fun (W : World) (v : Value) => cell_setCell_ne (w := W) (b := b) (o := off + i * 16 + 3) (o' := off + i * 16 + 6) (v := v) (by omega)
      have n3_7 := fun (W : World) (v : Value) => cell_setCell_ne (w := W) (b := b) (o := off + i * 16 + 3) (o' := off + i * 16 + 7) (v := v) (by omega)
      have n3_8 := fun (W : World) (v : Value) => cell_setCell_ne (w := W) (b := b) (o := off + i * 16 + 3) (o' := off + i * 16 + 8) (v := v) (by omega)
      have n3_9 := fun (W : World) (v : Value) => cell_setCell_ne (w := W) (b := b) (o := off + i * 16 + 3) (o' := off + i * 16 + 9) (v := v) (by omega)
      have n3_10 := fun (W : World) (v : Value) => cell_setCell_ne (w := W) (b := b) (o := off + i * 16 + 3) (o' := off + i * 16 + 10) (v := v) (by omega)
      have n3_11 := fun (W : World) (v : Value) => cell_setCell_ne (w := W) (b := b) (o := off + i * 16 + 3) (o' := off + i * 16 + 11) (v := v) (by omega)
      have n3_12 := fun (W : World) (v : Value) => cell_setCell_ne (w := W) (b := b) (o := off + i * 16 + 3) (o' := off + i * 16 + 12) (v := v) (by omega)
      have n3_13 := fun (W : World) (v : Value) => cell_setCell_ne (w := W) (b := b) (o := off + i * 16 + 3) (o' := off + i * 16 + 13) (v := v) (by omega)
      have n3_14 := fun (W : World) (v : Value) => cell_setCell_ne (w := W) (b := b) (o := off + i * 16 + 3) (o' := off + i * 16 + 14) (v := v) (by omega)
      have n3_15 := fun (W : World) (v : Value) => cell_setCell_ne (w := W) (b := b) (o := off + i * 16 + 3) (o' := off + i * 16 + 15) (v := v) (by omega)
      have n4_0 := fun (W : World) (v : Value) => cell_setCell_ne (w := W) (b := b) (o := off + i * 16 + 4) (o' := off + i * 16) (v := v) (by omega)
      have n4_1 := fun (W : World) (v : Value) => cell_setCell_ne (w := W) (b := b) (o := off + i * 16 + 4) (o' := off + i * 16 + 1) (v := v) (by omega)
      have n4_2 := fun (W : World) (v : Value) => cell_setCell_ne (w := W) (b := b) (o := off + i * 16 + 4) (o' := off + i * 16 + 2) (v := v) (by omega)
      have n4_3 := fun (W : World) (v : Value) => cell_setCell_ne (w := W) (b := b) (o := off + i * 16 + 4) (o' := off + i * 16 + 3) (v := v) (by omega)
      have n4_5 := fun (W : World) (v : Value) => cell_setCell_ne (w := W) (b := b) (o := off + i * 16 + 4) (o' := off + i * 16 + 5) (v := v) (by omega)
      have n4_6 := fun (W : World) (v : Value) => cell_setCell_ne (w := W) (b := b) (o := off + i * 16 + 4) (o' := off + i * 16 + 6) (v := v) (by omega)
      have n4_7 := fun (W : World) (v : Value) => cell_setCell_ne (w := W) (b := b) (o := off + i * 16 + 4) (o' := off + i * 16 + 7) (v := v) (by omega)
      have n4_8 := fun (W : World) (v : Value) => cell_setCell_ne (w := W) (b := b) (o := off + i * 16 + 4) (o' := off + i * 16 + 8) (v := v) (by omega)
      have n4_9 := fun (W : World) (v : Value) => cell_setCell_ne (w := W) (b := b) (o := off + i * 16 + 4) (o' := off + i * 16 + 9) (v := v) (by omega)
      have n4_10 := fun (W : World) (v : Value) => cell_setCell_ne (w := W) (b := b) (o := off + i * 16 + 4) (o' := off + i * 16 + 10) (v := v) (by omega)
      have n4_11 := fun (W : World) (v : Value) => cell_setCell_ne (w := W) (b := b) (o := off + i * 16 + 4) (o' := off + i * 16 + 11) (v := v) (by omega)
      have n4_12 := fun (W : World) (v : Value) => cell_setCell_ne (w := W) (b := b) (o := off + i * 16 + 4) (o' := off + i * 16 + 12) (v := v) (by omega)
      have n4_13 := fun (W : World) (v : Value) => cell_setCell_ne (w := W) (b := b) (o := off + i * 16 + 4) (o' := off + i * 16 + 13) (v := v) (by omega)
      have n4_14 := fun (W : World) (v : Value) => cell_setCell_ne (w := W) (b := b) (o := off + i * 16 + 4) (o' := off + i * 16 + 14) (v := v) (by omega)
      have n4_15 := fun (W : World) (v : Value) => cell_setCell_ne (w := W) (b := b) (o := off + i * 16 + 4) (o' := off + i * 16 + 15) (v := v) (by omega)
      have n5_0 := fun (W : World) (v : Value) => cell_setCell_ne (w := W) (b := b) (o := off + i * 16 + 5) (o' := off + i * 16) (v := v) (by omega)
      have n5_1 := fun (W : World) (v : Value) => cell_setCell_ne (w := W) (b := b) (o := off + i * 16 + 5) (o' := off + i * 16 + 1) (v := v) (by omega)
      have n5_2 := fun (W : World) (v : Value) => cell_setCell_ne (w := W) (b := b) (o := off + i * 16 + 5) (o' := off + i * 16 + 2) (v := v) (by omega)
      have n5_3 := fun (W : World) (v : Value) => cell_setCell_ne (w := W) (b := b) (o := off + i * 16 + 5) (o' := off + i * 16 + 3) (v := v) (by omega)
      have n5_4 := fun (W : World) (v : Value) => cell_setCell_ne (w := W) (b := b) (o := off + i * 16 + 5) (o' := off + i * 16 + 4) (v := v) (by omega)
      have n5_6 := fun (W : World) (v : Value) => cell_setCell_ne (w := W) (b := b) (o := off + i * 16 + 5) (o' := off + i * 16 + 6) (v := v) (by omega)
      have n5_7 := fun (W : World) (v : Value) => cell_setCell_ne (w := W) (b := b) (o := off + i * 16 + 5) (o' := off + i * 16 + 7) (v := v) (by omega)
      have n5_8 := fun (W : World) (v : Value) => cell_setCell_ne (w := W) (b := b) (o := off + i * 16 + 5) (o' := off + i * 16 + 8) (v := v) (by omega)
      have n5_9 := fun (W : World) (v : Value) => cell_setCell_ne (w := W) (b := b) (o := off + i * 16 + 5) (o' := off + i * 16 + 9) (v := v) (by omega)
      have n5_10 := fun (W : World) (v : Value) => cell_setCell_ne (w := W) (b := b) (o := off + i * 16 + 5) (o' := off + i * 16 + 10) (v := v) (by omega)
      have n5_11 := fun (W : World) (v : Value) => cell_setCell_ne (w := W) (b := b) (o := off + i * 16 + 5) (o' := off + i * 16 + 11) (v := v) (by omega)
      have n5_12 := fun (W : World) (v : Value) => cell_setCell_ne (w := W) (b := b) (o := off + i * 16 + 5) (o' := off + i * 16 + 12) (v := v) (by omega)
      have n5_13 := fun (W : World) (v : Value) => cell_setCell_ne (w := W) (b := b) (o := off + i * 16 + 5) (o' := off + i * 16 + 13) (v := v) (by omega)
      have n5_14 := fun (W : World) (v : Value) => cell_setCell_ne (w := W) (b := b) (o := off + i * 16 + 5) (o' := off + i * 16 + 14) (v := v) (by omega)
      have n5_15 := fun (W : World) (v : Value) => cell_setCell_ne (w := W) (b := b) (o := off + i * 16 + 5) (o' := off + i * 16 + 15) (v := v) (by omega)
      have n6_0 := fun (W : World) (v : Value) => cell_setCell_ne (w := W) (b := b) (o := off + i * 16 + 6) (o' := off + i * 16) (v := v) (by omega)
      have n6_1 := fun (W : World) (v : Value) => cell_setCell_ne (w := W) (b := b) (o := off + i * 16 + 6) (o' := off + i * 16 + 1) (v := v) (by omega)
      have n6_2 := fun (W : World) (v : Value) => cell_setCell_ne (w := W) (b := b) (o := off + i * 16 + 6) (o' := off + i * 16 + 2) (v := v) (by omega)
      have n6_3 := fun (W : World) (v : Value) => cell_setCell_ne (w := W) (b := b) (o := off + i * 16 + 6) (o' := off + i * 16 + 3) (v := v) (by omega)
      have n6_4 := fun (W : World) (v : Value) => cell_setCell_ne (w := W) (b := b) (o := off + i * 16 + 6) (o' := off + i * 16 + 4) (v := v) (by omega)
      have n6_5 := fun (W : World) (v : Value) => cell_setCell_ne (w := W) (b := b) (o := off + i * 16 + 6) (o' := off + i * 16 + 5) (v := v) (by omega)
      have n6_7 := fun (W : World) (v : Value) => cell_setCell_ne (w := W) (b := b) (o := off + i * 16 + 6) (o' := off + i * 16 + 7) (v := v) (by omega)
      have n6_8 := fun (W : World) (v : Value) => cell_setCell_ne (w := W) (b := b) (o := off + i * 16 + 6) (o' := off + i * 16 + 8) (v := v) (by omega)
      have n6_9 := fun (W : World) (v : Value) => cell_setCell_ne (w := W) (b := b) (o := off + i * 16 + 6) (o' := off + i * 16 + 9) (v := v) (by omega)
      have n6_10 := fun (W : World) (v : Value) => cell_setCell_ne (w := W) (b := b) (o := off + i * 16 + 6) (o' := off + i * 16 + 10) (v := v) (by omega)
      have n6_11 := fun (W : World) (v : Value) => cell_setCell_ne (w := W) (b := b) (o := off + i * 16 + 6) (o' := off + i * 16 + 11) (v := v) (by omega)
      have n6_12 := fun (W : World) (v : Value) => cell_setCell_ne (w := W) (b := b) (o := off + i * 16 + 6) (o' := off + i * 16 + 12) (v := v) (by omega)
      have n6_13 := fun (W : World) (v : Value) => cell_setCell_ne (w := W) (b := b) (o := off + i * 16 + 6) (o' := off + i * 16 + 13) (v := v) (by omega)
      have n6_14 := fun (W : World) (v : Value) => cell_setCell_ne (w := W) (b := b) (o := off + i * 16 + 6) (o' := off + i * 16 + 14) (v := v) (by omega)
      have n6_15 := fun (W : World) (v : Value) => cell_setCell_ne (w := W) (b := b) (o := off + i * 16 + 6) (o' := off + i * 16 + 15) (v := v) (by omega)
      have n7_0 := fun (W : World) (v : Value) => cell_setCell_ne (w := W) (b := b) (o := off + i * 16 + 7) (o' := off + i * 16) (v := v) (by omega)
      have n7_1 := fun (W : World) (v : Value) => cell_setCell_ne (w := W) (b := b) (o := off + i * 16 + 7) (o' := off + i * 16 + 1) (v := v) (by omega)
      have n7_2 := fun (W : World) (v : Value) => cell_setCell_ne (w := W) (b := b) (o := off + i * 16 + 7) (o' := off + i * 16 + 2) (v := v) (by omega)
      have n7_3 := fun (W : World) (v : Value) => cell_setCell_ne (w := W) (b := b) (o := off + i * 16 + 7) (o' := off + i * 16 + 3) (v := v) (by omega)
      have n7_4 := fun (W : World) (v : Value) => cell_setCell_ne (w := W) (b := b) (o := off + i * 16 + 7) (o' := off + i * 16 + 4) (v := v) (by omega)
      have n7_5 := fun (W : World) (v : Value) => cell_setCell_ne (w := W) (b := b) (o := off + i * 16 + 7) (o' := off + i * 16 + 5) (v := v) (by omega)
      have n7_6 := fun (W : World) (v : Value) => cell_setCell_ne (w := W) (b := b) (o := off + i * 16 + 7) (o' := off + i * 16 + 6) (v := v) (by omega)
      have n7_8 := fun (W : World) (v : Value) => cell_setCell_ne (w := W) (b := b) (o := off + i * 16 + 7) (o' := off + i * 16 + 8) (v := v) (by omega)
      have n7_9 := fun (W : World) (v : Value) => cell_setCell_ne (w := W) (b := b) (o := off + i * 16 + 7) (o' := off + i * 16 + 9) (v := v) (by omega)
      have n7_10 := fun (W : World) (v : Value) => cell_setCell_ne (w := W) (b := b) (o := off + i * 16 + 7) (o' := off + i * 16 + 10) (v := v) (by omega)
      have n7_11 := fun (W : World) (v : Value) => cell_setCell_ne (w := W) (b := b) (o := off + i * 16 + 7) (o' := off + i * 16 + 11) (v := v) (by omega)
      have n7_12 := fun (W : World) (v : Value) => cell_setCell_ne (w := W) (b := b) (o := off + i * 16 + 7) (o' := off + i * 16 + 12) (v := v) (by omega)
      have n7_13 := fun (W : World) (v : Value) => cell_setCell_ne (w := W) (b := b) (o := off + i * 16 + 7) (o' := off + i * 16 + 13) (v := v) (by omega)
      have n7_14 := fun (W : World) (v : Value) => cell_setCell_ne (w := W) (b := b) (o := off + i * 16 + 7) (o' := off + i * 16 + 14) (v := v) (by omega)
      have n7_15 := fun (W : World) (v : Value) => cell_setCell_ne (w := W) (b := b) (o := off + i * 16 + 7) (o' := off + i * 16 + 15) (v := v) (by omega)
      have n9_0 := fun (W : World) (v : Value) => cell_setCell_ne (w := W) (b := b) (o := off + i * 16 + 9) (o' := off + i * 16) (v := v) (by omega)
      have n9_1 := fun (W : World) (v : Value) => cell_setCell_ne (w := W) (b := b) (o := off + i * 16 + 9) (o' := off + i * 16 + 1) (v := v) (by omega)
      have n9_2 := fun (W : World) (v : Value) => cell_setCell_ne (w := W) (b := b) (o := off + i * 16 + 9) (o' := off + i * 16 + 2) (v := v) (by omega)
      have n9_3 := fun (W : World) (v : Value) => cell_setCell_ne (w := W) (b := b) (o := off + i * 16 + 9) (o' := off + i * 16 + 3) (v := v) (by omega)
      have n9_4 := fun (W : World) (v : Value) => cell_setCell_ne (w := W) (b := b) (o := off + i * 16 + 9) (o' := off + i * 16 + 4) (v := v) (by omega)
      have n9_5 := fun (W : World) (v : Value) => cell_setCell_ne (w := W) (b := b) (o := off + i * 16 + 9) (o' := off + i * 16 + 5) (v := v) (by omega)
      have n9_6 := fun (W : World) (v : Value) => cell_setCell_ne (w := W) (b := b) (o := off + i * 16 + 9) (o' := off + i * 16 + 6) (v := v) (by omega)
      have n9_7 := fun (W : World) (v : Value) => cell_setCell_ne (w := W) (b := b) (o := off + i * 16 + 9) (o' := off + i * 16 + 7) (v := v) (by omega)
      have n9_8 := fun (W : World) (v : Value) => cell_setCell_ne (w := W) (b := b) (o := off + i * 16 + 9) (o' := off + i * 16 + 8) (v := v) (by omega)
      have n9_10 := fun (W : World) (v : Value) => cell_setCell_ne (w := W) (b := b) (o := off + i * 16 + 9) (o' := off + i * 16 + 10) (v := v) (by omega)
      have n9_11 := fun (W : World) (v : Value) => cell_setCell_ne (w := W) (b := b) (o := off + i * 16 + 9) (o' := off + i * 16 + 11) (v := v) (by omega)
      have n9_12 := fun (W : World) (v : Value) => cell_setCell_ne (w := W) (b := b) (o := off + i * 16 + 9) (o' := off + i * 16 + 12) (v := v) (by omega)
      have n9_13 := fun (W : World) (v : Value) => cell_setCell_ne (w := W) (b := b) (o := off + i * 16 + 9) (o' := off + i * 16 + 13) (v := v) (by omega)
      have n9_14 := fun (W : World) (v : Value) => cell_setCell_ne (w := W) (b := b) (o := off + i * 16 + 9) (o' := off + i * 16 + 14) (v := v) (by omega)
      have n9_15 := fun (W : World) (v : Value) => cell_setCell_ne (w := W) (b := b) (o := off + i * 16 + 9) (o' := off + i * 16 + 15) (v := v) (by omega)
      have n10_0 := fun (W : World) (v : Value) => cell_setCell_ne (w := W) (b := b) (o := off + i * 16 + 10) (o' := off + i * 16) (v := v) (by omega)
      have n10_1 := fun (W : World) (v : Value) => cell_setCell_ne (w := W) (b := b) (o := off + i * 16 + 10) (o' := off + i * 16 + 1) (v := v) (by omega)
      have n10_2 := fun (W : World) (v : Value) => cell_setCell_ne (w := W) (b := b) (o := off + i * 16 + 10) (o' := off + i * 16 + 2) (v := v) (by omega)
      have n10_3 := fun (W : World) (v : Value) => cell_setCell_ne (w := W) (b := b) (o := off + i * 16 + 10) (o' := off + i * 16 + 3) (v := v) (by omega)
      have n10_4 := fun (W : World) (v : Value) => cell_setCell_ne (w := W) (b := b) (o := off + i * 16 + 10) (o' := off + i * 16 + 4) (v := v) (by omega)
      have n10_5 := fun (W : World) (v : Value) => cell_setCell_ne (w := W) (b := b) (o := off + i * 16 + 10) (o' := off + i * 16 + 5) (v := v) (by omega)
      have n10_6 := fun (W : World) (v : Value) => cell_setCell_ne (w := W) (b := b) (o := off + i * 16 + 10) (o' := off + i * 16 + 6) (v := v) (by omega)
      have n10_7 := fun (W : World) (v : Value) => cell_setCell_ne (w := W) (b := b) (o := off + i * 16 + 10) (o' := off + i * 16 + 7) (v := v) (by omega)
      have n10_8 := fun (W : World) (v : Value) => cell_setCell_ne (w := W) (b := b) (o := off + i * 16 + 10) (o' := off + i * 16 + 8) (v := v) (by omega)
      have n10_9 := fun (W : World) (v : Value) => cell_setCell_ne (w := W) (b := b) (o := off + i * 16 + 10) (o' := off + i * 16 + 9) (v := v) (by omega)
      have n10_11 := fun (W : World) (v : Value) => cell_setCell_ne (w := W) (b := b) (o := off + i * 16 + 10) (o' := off + i * 16 + 11) (v := v) (by omega)
      have n10_12 := fun (W : World) (v : Value) => cell_setCell_ne (w := W) (b := b) (o := off + i * 16 + 10) (o' := off + i * 16 + 12) (v := v) (by omega)
      have n10_13 := fun (W : World) (v : Value) => cell_setCell_ne (w := W) (b := b) (o := off + i * 16 + 10) (o' := off + i * 16 + 13) (v := v) (by omega)
      have n10_14 := fun (W : World) (v : Value) => cell_setCell_ne (w := W) (b := b) (o := off + i * 16 + 10) (o' := off + i * 16 + 14) (v := v) (by omega)
      have n10_15 := fun (W : World) (v : Value) => cell_setCell_ne (w := W) (b := b) (o := off + i * 16 + 10) (o' := off + i * 16 + 15) (v := v) (by omega)
      have n11_0 := fun (W : World) (v : Value) => cell_setCell_ne (w := W) (b := b) (o := off + i * 16 + 11) (o' := off + i * 16) (v := v) (by omega)
      have n11_1 := fun (W : World) (v : Value) => cell_setCell_ne (w := W) (b := b) (o := off + i * 16 + 11) (o' := off + i * 16 + 1) (v := v) (by omega)
      have n11_2 := fun (W : World) (v : Value) => cell_setCell_ne (w := W) (b := b) (o := off + i * 16 + 11) (o' := off + i * 16 + 2) (v := v) (by omega)
      have n11_3 := fun (W : World) (v : Value) => cell_setCell_ne (w := W) (b := b) (o := off + i * 16 + 11) (o' := off + i * 16 + 3) (v := v) (by omega)
      have n11_4 := fun (W : World) (v : Value) => cell_setCell_ne (w := W) (b := b) (o := off + i * 16 + 11) (o' := off + i * 16 + 4) (v := v) (by omega)
      have n11_5 := fun (W : World) (v : Value) => cell_setCell_ne (w := W) (b := b) (o := off + i * 16 + 11) (o' := off + i * 16 + 5) (v := v) (by omega)
      have n11_6 := fun (W : World) (v : Value) => cell_setCell_ne (w := W) (b := b) (o := off + i * 16 + 11) (o' := off + i * 16 + 6) (v := v) (by omega)
      have n11_7 := fun (W : World) (v : Value) => cell_setCell_ne (w := W) (b := b) (o := off + i * 16 + 11) (o' := off + i * 16 + 7) (v := v) (by omega)
      have n11_8 := fun (W : World) (v : Value) => cell_setCell_ne (w := W) (b := b) (o := off + i * 16 + 11) (o' := off + i * 16 + 8) (v := v) (by omega)
      have n11_9 := fun (W : World) (v : Value) => cell_setCell_ne (w := W) (b := b) (o := off + i * 16 + 11) (o' := off + i * 16 + 9) (v := v) (by omega)
      have n11_10 := fun (W : World) (v : Value) => cell_setCell_ne (w := W) (b := b) (o := off + i * 16 + 11) (o' := off + i * 16 + 10) (v := v) (by omega)
      have n11_12 := fun (W : World) (v : Value) => cell_setCell_ne (w := W) (b := b) (o := off + i * 16 + 11) (o' := off + i * 16 + 12) (v := v) (by omega)
      have n11_13 := fun (W : World) (v : Value) => cell_setCell_ne (w := W) (b := b) (o := off + i * 16 + 11) (o' := off + i * 16 + 13) (v := v) (by omega)
      have n11_14 := fun (W : World) (v : Value) => cell_setCell_ne (w := W) (b := b) (o := off + i * 16 + 11) (o' := off + i * 16 + 14) (v := v) (by omega)
      have n11_15 := fun (W : World) (v : Value) => cell_setCell_ne (w := W) (b := b) (o := off + i * 16 + 11) (o' := off + i * 16 + 15) (v := v) (by omega)
      have n12_0 := fun (W : World) (v : Value) => cell_setCell_ne (w := W) (b := b) (o := off + i * 16 + 12) (o' := off + i * 16) (v := v) (by omega)
      have n12_1 := fun (W : World) (v : Value) => cell_setCell_ne (w := W) (b := b) (o := off + i * 16 + 12) (o' := off + i * 16 + 1) (v := v) (by omega)
      have n12_2 := fun (W : World) (v : Value) => cell_setCell_ne (w := W) (b := b) (o := off + i * 16 + 12) (o' := off + i * 16 + 2) (v := v) (by omega)
      have n12_3 := fun (W : World) (v : Value) => cell_setCell_ne (w := W) (b := b) (o := off + i * 16 + 12) (o' := off + i * 16 + 3) (v := v) (by omega)
      have n12_4 := fun (W : World) (v : Value) => cell_setCell_ne (w := W) (b := b) (o := off + i * 16 + 12) (o' := off + i * 16 + 4) (v := v) (by omega)
      have n12_5 := fun (W : World) (v : Value) => cell_setCell_ne (w := W) (b := b) (o := off + i * 16 + 12) (o' := off + i * 16 + 5) (v := v) (by omega)
      have n12_6 := fun (W : World) (v : Value) => cell_setCell_ne (w := W) (b := b) (o := off + i * 16 + 12) (o' := off + i * 16 + 6) (v := v) (by omega)
      have n12_7 := fun (W : World) (v : Value) => cell_setCell_ne (w := W) (b := b) (o := off + i * 16 + 12) (o' := off + i * 16 + 7) (v := v) (by omega)
      have n12_8 := fun (W : World) (v : Value) => cell_setCell_ne (w := W) (b := b) (o := off + i * 16 + 12) (o' := off + i * 16 + 8) (v := v) (by omega)
      have n12_9 := fun (W : World) (v : Value) => cell_setCell_ne (w := W) (b := b) (o := off + i * 16 + 12) (o' := off + i * 16 + 9) (v := v) (by omega)
      have n12_10 := fun (W : World) (v : Value) => cell_setCell_ne (w := W) (b := b) (o := off + i * 16 + 12) (o' := off + i * 16 + 10) (v := v) (by omega)
      have n12_11 := fun (W : World) (v : Value) => cell_setCell_ne (w := W) (b := b) (o := off + i * 16 + 12) (o' := off + i * 16 + 11) (v := v) (by omega)
      have n12_13 := fun (W : World) (v : Value) => cell_setCell_ne (w := W) (b := b) (o := off + i * 16 + 12) (o' := off + i * 16 + 13) (v := v) (by omega)
      have n12_14 := fun (W : World) (v : Value) => cell_setCell_ne (w := W) (b := b) (o := off + i * 16 + 12) (o' := off + i * 16 + 14) (v := v) (by omega)
      have n12_15 := fun (W : World) (v : Value) => cell_setCell_ne (w := W) (b := b) (o := off + i * 16 + 12) (o' := off + i * 16 + 15) (v := v) (by omega)
      have n13_0 := fun (W : World) (v : Value) => cell_setCell_ne (w := W) (b := b) (o := off + i * 16 + 13) (o' := off + i * 16) (v := v) (by omega)
      have n13_1 := fun (W : World) (v : Value) => cell_setCell_ne (w := W) (b := b) (o := off + i * 16 + 13) (o' := off + i * 16 + 1) (v := v) (by omega)
      have n13_2 := fun (W : World) (v : Value) => cell_setCell_ne (w := W) (b := b) (o := off + i * 16 + 13) (o' := off + i * 16 + 2) (v := v) (by omega)
      have n13_3 := fun (W : World) (v : Value) => cell_setCell_ne (w := W) (b := b) (o := off + i * 16 + 13) (o' := off + i * 16 + 3) (v := v) (by omega)
      have n13_4 := fun (W : World) (v : Value) => cell_setCell_ne (w := W) (b := b) (o := off + i * 16 + 13) (o' := off + i * 16 + 4) (v := v) (by omega)
      have n13_5 := fun (W : World) (v : Value) => cell_setCell_ne (w := W) (b := b) (o := off + i * 16 + 13) (o' := off + i * 16 + 5) (v := v) (by omega)
      have n13_6 := fun (W : World) (v : Value) => cell_setCell_ne (w := W) (b := b) (o := off + i * 16 + 13) (o' := off + i * 16 + 6) (v := v) (by omega)
      have n13_7 := fun (W : World) (v : Value) => cell_setCell_ne (w := W) (b := b) (o := off + i * 16 + 13) (o' := off + i * 16 + 7) (v := v) (by omega)
      have n13_8 := fun (W : World) (v : Value) => cell_setCell_ne (w := W) (b := b) (o := off + i * 16 + 13) (o' := off + i * 16 + 8) (v := v) (by omega)
      have n13_9 := fun (W : World) (v : Value) => cell_setCell_ne (w := W) (b := b) (o := off + i * 16 + 13) (o' := off + i * 16 + 9) (v := v) (by omega)
      have n13_10 := fun (W : World) (v : Value) => cell_setCell_ne (w := W) (b := b) (o := off + i * 16 + 13) (o' := off + i * 16 + 10) (v := v) (by omega)
      have n13_11 := fun (W : World) (v : Value) => cell_setCell_ne (w := W) (b := b) (o := off + i * 16 + 13) (o' := off + i * 16 + 11) (v := v) (by omega)
      have n13_12 := fun (W : World) (v : Value) => cell_setCell_ne (w := W) (b := b) (o := off + i * 16 + 13) (o' := off + i * 16 + 12) (v := v) (by omega)
      have n13_14 := fun (W : World) (v : Value) => cell_setCell_ne (w := W) (b := b) (o := off + i * 16 + 13) (o' := off + i * 16 + 14) (v := v) (by omega)
      have n13_15 := fun (W : World) (v : Value) => cell_setCell_ne (w := W) (b := b) (o := off + i * 16 + 13) (o' := off + i * 16 + 15) (v := v) (by omega)
      have n14_0 := fun (W : World) (v : Value) => cell_setCell_ne (w := W) (b := b) (o := off + i * 16 + 14) (o' := off + i * 16) (v := v) (by omega)
      have n14_1 := fun (W : World) (v : Value) => cell_setCell_ne (w := W) (b := b) (o := off + i * 16 + 14) (o' := off + i * 16 + 1) (v := v) (by omega)
      have n14_2 := fun (W : World) (v : Value) => cell_setCell_ne (w := W) (b := b) (o := off + i * 16 + 14) (o' := off + i * 16 + 2) (v := v) (by omega)
      have n14_3 := fun (W : World) (v : Value) => cell_setCell_ne (w := W) (b := b) (o := off + i * 16 + 14) (o' := off + i * 16 + 3) (v := v) (by omega)
      have n14_4 := fun (W : World) (v : Value) => cell_setCell_ne (w := W) (b := b) (o := off + i * 16 + 14) (o' := off + i * 16 + 4) (v := v) (by omega)
      have n14_5 := fun (W : World) (v : Value) => cell_setCell_ne (w := W) (b := b) (o := off + i * 16 + 14) (o' := off + i * 16 + 5) (v := v) (by omega)
      have n14_6 := fun (W : World) (v : Value) => cell_setCell_ne (w := W) (b := b) (o := off + i * 16 + 14) (o' := off + i * 16 + 6) (v := v) (by omega)
      have n14_7 := fun (W : World) (v : Value) => cell_setCell_ne (w := W) (b := b) (o := off + i * 16 + 14) (o' := off + i * 16 + 7) (v := v) (by omega)
      have n14_8 := fun (W : World) (v : Value) => cell_setCell_ne (w := W) (b := b) (o := off + i * 16 + 14) (o' := off + i * 16 + 8) (v := v) (by omega)
      have n14_9 := fun (W : World) (v : Value) => cell_setCell_ne (w := W) (b := b) (o := off + i * 16 + 14) (o' := off + i * 16 + 9) (v := v) (by omega)
      have n14_10 := fun (W : World) (v : Value) => cell_setCell_ne (w := W) (b := b) (o := off + i * 16 + 14) (o' := off + i * 16 + 10) (v := v) (by omega)
      have n14_11 := fun (W : World) (v : Value) => cell_setCell_ne (w := W) (b := b) (o := off + i * 16 + 14) (o' := off + i * 16 + 11) (v := v) (by omega)
      have n14_12 := fun (W : World) (v : Value) => cell_setCell_ne (w := W) (b := b) (o := off + i * 16 + 14) (o' := off + i * 16 + 12) (v := v) (by omega)
      have n14_13 := fun (W : World) (v : Value) => cell_setCell_ne (w := W) (b := b) (o := off + i * 16 + 14) (o' := off + i * 16 + 13) (v := v) (by omega)
      have n14_15 := fun (W : World) (v : Value) => cell_setCell_ne (w := W) (b := b) (o := off + i * 16 + 14) (o' := off + i * 16 + 15) (v := v) (by omega)
      have fz := fun (W : World) (o o' : Nat) (v : Value) => (frozen_setCell' : (W.setCell ⟨b, o, none⟩ v).frozen? ⟨b, o', none⟩ = W.frozen? ⟨b, o', none⟩)
      have Hq0 := Lib.hid (mtx_size (m) (by omega))
      have Hq1 := Lib.hid (mtx_size (m + 1) (by omega))
      have Hq20 := Lib.hid (wf_mark (y := m + 1 + 1) (by omega) (by omega))
      have Hq21 := Lib.hid (wf_mark (y := m + 1 + 1 + 1) (by omega) (by omega))
      have Hq22 := Lib.hid (wf_mark (y := m + 1 + 1 + 1 + 1) (by omega) (by omega))
      have Hq23 := Lib.hid (wf_mark (y := m + 1 + 1 + 1 + 1 + 1) (by omega) (by omega))
      have Hq24 := Lib.hid (mtx_size (m + 1 + 1 + 1 + 1 + 1 + 1) (by omega))
      have Hq25 := Lib.hid (mtx_size (m + 1 + 1 + 1 + 1 + 1 + 1 + 1) (by omega))
      have Hq30 := Lib.hid (wf_mark (y := (mExprS (m + 1 + 1 + 1 + 1 + 1 + 1 + 1 + 1) q26).2) (by omega) (by omega))
      have Hq31 := Lib.hid (wf_mark (y := (mExprS (m + 1 + 1 + 1 + 1 + 1 + 1 + 1 + 1) q26).2 + 1) (by omega) (by omega))
      have Hq32 := Lib.hid (wf_mark (y := (mExprS (m + 1 + 1 + 1 + 1 + 1 + 1 + 1 + 1) q26).2 + 1 + 1) (by omega) (by omega))
      have Hq33 := Lib.hid (wf_mark (y := (mExprS (m + 1 + 1 + 1 + 1 + 1 + 1 + 1 + 1) q26).2 + 1 + 1 + 1) (by omega) (by omega))
      have Hq34 := Lib.hid (mtx_size ((mExprS (m + 1 + 1 + 1 + 1 + 1 + 1 + 1 + 1) q26).2 + 1 + 1 + 1 + 1) (by omega))
      have Hq35 := Lib.hid (mtx_size ((mExprS (m + 1 + 1 + 1 + 1 + 1 + 1 + 1 + 1) q26).2 + 1 + 1 + 1 + 1 + 1) (by omega))
      have N0 : (fq26 ++ (fq36)).Nodup := by simpa only [List.nil_append, List.append_nil] using hnq
      have M0 : b ∉ fq26 ++ (fq36) := by simpa only [List.nil_append, List.append_nil] using hbn
      obtain ⟨uq0, N1, R0⟩ := nodup_app N0
      have uq26 := uq0
      have dq26 : b ∉ fq26 := fun h => M0 (by simp [h])
      have uq36 := N1
      have dq36 : b ∉ fq36 := fun h => M0 (by simp [h])
      have aq26_q36 : ∀ c ∈ fq26, c ∉ fq36 := fun c h1 h2 => R0 c h1 (by simp [h2])
      have aq36_q26 : ∀ c ∈ fq36, c ∉ fq26 := fun c h1 h2 => R0 c h2 (by simp [h1])
      have Sq26 := Lib.hid hq26
      obtain ⟨aaq26, ccq26, rfl, -, -, -⟩ := hq26.open
      have Sq36 := Lib.hid hq36
      obtain ⟨aaq36, ccq36, rfl, -, -, -⟩ := hq36.open
      have Haq26_q36 := Lib.hid aq26_q36
      have Haq36_q26 := Lib.hid aq36_q26
      have Hdq26 := Lib.hid dq26
      have Hdq36 := Lib.hid dq36
      have Huq26 := Lib.hid uq26
      have Huq36 := Lib.hid uq36
      clear aq26_q36 aq36_q26 dq26 dq36 uq26 uq36 M0 N0 N1 uq0 R0 hq26 hq36
      clear hc hz hput bd2 g3 em hy hr hcs hq0 hq1 hq20 hq21 hq22 hq23 hq24 hq25 hq30 hq31 hq32 hq33 hq34 hq35
      have Hbn := Lib.hid hbn
      have Hnq := Lib.hid hnq
      have Hsub := Lib.hid hsub
      clear hbn hnq hsub
      go_wp2_with fail
      refine (markText_any (m) _ (by omega) (by omega)).mono ?_
      rintro e w0 ⟨rfl, x0, rfl⟩
      go_wp2_with fail
      refine (markText_any (m + 1) _ (by omega) (by omega)).mono ?_
      rintro e w1 ⟨rfl, x1, rfl⟩
      go_wp2_with fail
      refine (markText_any (m + 1 + 1 + 1 + 1 + 1 + 1) _ (by omega) (by omega)).mono ?_
      rintro e w6 ⟨rfl, x6, rfl⟩
      go_wp2_with fail
      refine (markText_any (m + 1 + 1 + 1 + 1 + 1 + 1 + 1) _ (by omega) (by omega)).mono ?_
      rintro e w7 ⟨rfl, x7, rfl⟩
      go_wp2_with fail
      refine (markExprS_any fq26 _ q26 (m + 1 + 1 + 1 + 1 + 1 + 1 + 1 + 1) _ ((SlR.wr Sq26.out (fp := [b]) (by repeat (first | with_reducible refine Wr.setCell ?_ (by simp) _ | with_reducible refine Wr.gr ?_ (Gr.ext (Gr.refl _) _) | exact Wr.refl _ _)) (by have := Hdq26.out; intro c hc hcb; simp at hcb; subst hcb; exact this hc))) Huq26.out (by omega) (by show (mExprS (m + 1 + 1 + 1 + 1 + 1 + 1 + 1 + 1) q26).2 ≤ _; omega)).mono ?_
      rintro e y8 ⟨rfl, t8, r8⟩
      have T8 := Lib.hid t8
      have R8 := Lib.hid r8
      clear t8 r8
      have F8 := Lib.hid (Foc.inner (b := b) (lo := off + i * Rd.n (GContribution d)) (n := Rd.n (GContribution d)) (fq := ([] ++ ([] ++ (([] ++ ([] ++ ([] ++ ([] ++ ([] ++ ([] ++ fq26)))))) ++ ([] ++ ([] ++ ([] ++ ([] ++ ([] ++ ([] ++ fq36)))))))))) (w := wr) (by repeat (first | with_reducible refine Foc.set ?_ (by simp [Rd.n] <;> omega) (by simp [Rd.n] <;> omega) _ | with_reducible refine Foc.gr ?_ bl (Gr.ext (Gr.refl _) _) | exact Foc.refl _ _ _ _ _)) bl R8.out (by intro c hc; simp [hc]) Hdq26.out)
      have Sq26x8 := T8
      have Sq36x8 := Lib.hid (SlR.wr (SlR.wr Sq36.out (fp := [b]) (by repeat (first | with_reducible refine Wr.setCell ?_ (by simp) _ | with_reducible refine Wr.gr ?_ (Gr.ext (Gr.refl _) _) | exact Wr.refl _ _)) (by have := Hdq36.out; intro c hc hcb; simp at hcb; subst hcb; exact this hc)) R8.out Haq36_q26.out)
      have e8 := R8.out.block b (Nat.lt_of_lt_of_le bl (Foc.wr (b := b) (lo := off + i * Rd.n (GContribution d)) (n := Rd.n (GContribution d)) (fq := ([] ++ ([] ++ (([] ++ ([] ++ ([] ++ ([] ++ ([] ++ ([] ++ fq26)))))) ++ ([] ++ ([] ++ ([] ++ ([] ++ ([] ++ ([] ++ fq36)))))))))) (w := wr) (by repeat (first | with_reducible refine Foc.set ?_ (by simp [Rd.n] <;> omega) (by simp [Rd.n] <;> omega) _ | with_reducible refine Foc.gr ?_ bl (Gr.ext (Gr.refl _) _) | exact Foc.refl _ _ _ _ _))).size) Hdq26.out
      have c8 := fun (o : Nat) => World.cell?_of_block (a := ⟨b, o, none⟩) e8
      have z0x8 : y8.cell? ⟨b, off + i * 16, none⟩ = some (.string (mtx (m))) := (c8 _).trans (by go_simp)
      have z1x8 : y8.cell? ⟨b, off + i * 16 + 1, none⟩ = some (.string (mtx (m + 1))) := (c8 _).trans (by go_simp)
      have z2x8 : y8.cell? ⟨b, off + i * 16 + 2, none⟩ = some (.int .i64 (m + 1 + 1)) := (c8 _).trans (by go_simp)
      have z3x8 : y8.cell? ⟨b, off + i * 16 + 3, none⟩ = some (.int .i64 (m + 1 + 1 + 1)) := (c8 _).trans (by go_simp)
      have z4x8 : y8.cell? ⟨b, off + i * 16 + 4, none⟩ = some (.int .i64 (m + 1 + 1 + 1 + 1)) := (c8 _).trans (by go_simp)
      have z5x8 : y8.cell? ⟨b, off + i * 16 + 5, none⟩ = some (.int .i64 (m + 1 + 1 + 1 + 1 + 1)) := (c8 _).trans (by go_simp)
      have z6x8 : y8.cell? ⟨b, off + i * 16 + 6, none⟩ = some (.string (mtx (m + 1 + 1 + 1 + 1 + 1 + 1))) := (c8 _).trans (by go_simp)
      have z7x8 : y8.cell? ⟨b, off + i * 16 + 7, none⟩ = some (.string (mtx (m + 1 + 1 + 1 + 1 + 1 + 1 + 1))) := (c8 _).trans (by go_simp)
      have z8x8 : y8.cell? ⟨b, off + i * 16 + 8, none⟩ = some (.slice aaq26 q26.length ccq26) := (c8 _).trans (by go_simp)
      have z9x8 : y8.cell? ⟨b, off + i * 16 + 9, none⟩ = some (.int .i64 q30) := (c8 _).trans (by go_simp)
      have z10x8 : y8.cell? ⟨b, off + i * 16 + 10, none⟩ = some (.int .i64 q31) := (c8 _).trans (by go_simp)
      have z11x8 : y8.cell? ⟨b, off + i * 16 + 11, none⟩ = some (.int .i64 q32) := (c8 _).trans (by go_simp)
      have z12x8 : y8.cell? ⟨b, off + i * 16 + 12, none⟩ = some (.int .i64 q33) := (c8 _).trans (by go_simp)
      have z13x8 : y8.cell? ⟨b, off + i * 16 + 13, none⟩ = some (.string q34) := (c8 _).trans (by go_simp)
      have z14x8 : y8.cell? ⟨b, off + i * 16 + 14, none⟩ = some (.string q35) := (c8 _).trans (by go_simp)
      have z15x8 : y8.cell? ⟨b, off + i * 16 + 15, none⟩ = some (.slice aaq36 q36.length ccq36) := (c8 _).trans (by go_simp)
      have bl8 := blk z0x8
      have v8 := fun (o : Nat) => World.frozen?_of_block (a := ⟨b, o, none⟩) e8
      have s8 := R8.out.size
      clear e8 c8 z0 z1 z2 z3 z4 z5 z6 z7 z8 z9 z10 z11 z12 z13 z14 z15
      go_wp2_with fail
      refine (markText_any ((mExprS (m + 1 + 1 + 1 + 1 + 1 + 1 + 1 + 1) q26).2 + 1 + 1 + 1 + 1) _ (by omega) (by omega)).mono ?_
      rintro e w13 ⟨rfl, x13, rfl⟩
      go_wp2_with fail
      refine (markText_any ((mExprS (m + 1 + 1 + 1 + 1 + 1 + 1 + 1 + 1) q26).2 + 1 + 1 + 1 + 1 + 1) _ (by omega) (by omega)).mono ?_
      rintro e w14 ⟨rfl, x14, rfl⟩
      go_wp2_with fail
      refine (markExprS_any fq36 _ q36 ((mExprS (m + 1 + 1 + 1 + 1 + 1 + 1 + 1 + 1) q26).2 + 1 + 1 + 1 + 1 + 1 + 1) _ ((SlR.wr Sq36x8.out (fp := [b]) (by repeat (first | with_reducible refine Wr.setCell ?_ (by simp) _ | with_reducible refine Wr.gr ?_ (Gr.ext (Gr.refl _) _) | exact Wr.refl _ _)) (by have := Hdq36.out; intro c hc hcb; simp at hcb; subst hcb; exact this hc))) Huq36.out (by omega) (by show (mExprS ((mExprS (m + 1 + 1 + 1 + 1 + 1 + 1 + 1 + 1) q26).2 + 1 + 1 + 1 + 1 + 1 + 1) q36).2 ≤ _; omega)).mono ?_
      rintro e y15 ⟨rfl, t15, r15⟩
      have T15 := Lib.hid t15
      have R15 := Lib.hid r15
      clear t15 r15
      have F15 := Lib.hid (Foc.inner (b := b) (lo := off + i * Rd.n (GContribution d)) (n := Rd.n (GContribution d)) (fq := ([] ++ ([] ++ (([] ++ ([] ++ ([] ++ ([] ++ ([] ++ ([] ++ fq26)))))) ++ ([] ++ ([] ++ ([] ++ ([] ++ ([] ++ ([] ++ fq36)))))))))) (w := wr) (by repeat (first | with_reducible refine Foc.set ?_ (by simp [Rd.n] <;> omega) (by simp [Rd.n] <;> omega) _ | with_reducible refine Foc.gr ?_ bl (Gr.ext (Gr.refl _) _) | exact F8.out)) bl R15.out (by intro c hc; simp [hc]) Hdq36.out)
      have Sq26x15 := Lib.hid (SlR.wr (SlR.wr Sq26x8.out (fp := [b]) (by repeat (first | with_reducible refine Wr.setCell ?_ (by simp) _ | with_reducible refine Wr.gr ?_ (Gr.ext (Gr.refl _) _) | exact Wr.refl _ _)) (by have := Hdq26.out; intro c hc hcb; simp at hcb; subst hcb; exact this hc)) R15.out Haq26_q36.out)
      have Sq36x15 := T15
      have e15 := R15.out.block b (Nat.lt_of_lt_of_le bl (Foc.wr (b := b) (lo := off + i * Rd.n (GContribution d)) (n := Rd.n (GContribution d)) (fq := ([] ++ ([] ++ (([] ++ ([] ++ ([] ++ ([] ++ ([] ++ ([] ++ fq26)))))) ++ ([] ++ ([] ++ ([] ++ ([] ++ ([] ++ ([] ++ fq36)))))))))) (w := wr) (by repeat (first | with_reducible refine Foc.set ?_ (by simp [Rd.n] <;> omega) (by simp [Rd.n] <;> omega) _ | with_reducible refine Foc.gr ?_ bl (Gr.ext (Gr.refl _) _) | exact F8.out))).size) Hdq36.out
      have c15 := fun (o : Nat) => World.cell?_of_block (a := ⟨b, o, none⟩) e15
      have z0x15 : y15.cell? ⟨b, off + i * 16, none⟩ = some (.string (mtx (m))) := (c15 _).trans (by go_simp)
      have z1x15 : y15.cell? ⟨b, off + i * 16 + 1, none⟩ = some (.string (mtx (m + 1))) := (c15 _).trans (by go_simp)
      have z2x15 : y15.cell? ⟨b, off + i * 16 + 2, none⟩ = some (.int .i64 (m + 1 + 1)) := (c15 _).trans (by go_simp)
      have z3x15 : y15.cell? ⟨b, off + i * 16 + 3, none⟩ = some (.int .i64 (m + 1 + 1 + 1)) := (c15 _).trans (by go_simp)
      have z4x15 : y15.cell? ⟨b, off + i * 16 + 4, none⟩ = some (.int .i64 (m + 1 + 1 + 1 + 1)) := (c15 _).trans (by go_simp)
      have z5x15 : y15.cell? ⟨b, off + i * 16 + 5, none⟩ = some (.int .i64 (m + 1 + 1 + 1 + 1 + 1)) := (c15 _).trans (by go_simp)
      have z6x15 : y15.cell? ⟨b, off + i * 16 + 6, none⟩ = some (.string (mtx (m + 1 + 1 + 1 + 1 + 1 + 1))) := (c15 _).trans (by go_simp)
      have z7x15 : y15.cell? ⟨b, off + i * 16 + 7, none⟩ = some (.string (mtx (m + 1 + 1 + 1 + 1 + 1 + 1 + 1))) := (c15 _).trans (by go_simp)
      have z8x15 : y15.cell? ⟨b, off + i * 16 + 8, none⟩ = some (.slice aaq26 q26.length ccq26) := (c15 _).trans (by go_simp)
      have z9x15 : y15.cell? ⟨b, off + i * 16 + 9, none⟩ = some (.int .i64 ((mExprS (m + 1 + 1 + 1 + 1 + 1 + 1 + 1 + 1) q26).2)) := (c15 _).trans (by go_simp)
      have z10x15 : y15.cell? ⟨b, off + i * 16 + 10, none⟩ = some (.int .i64 ((mExprS (m + 1 + 1 + 1 + 1 + 1 + 1 + 1 + 1) q26).2 + 1)) := (c15 _).trans (by go_simp)
      have z11x15 : y15.cell? ⟨b, off + i * 16 + 11, none⟩ = some (.int .i64 ((mExprS (m + 1 + 1 + 1 + 1 + 1 + 1 + 1 + 1) q26).2 + 1 + 1)) := (c15 _).trans (by go_simp)
      have z12x15 : y15.cell? ⟨b, off + i * 16 + 12, none⟩ = some (.int .i64 ((mExprS (m + 1 + 1 + 1 + 1 + 1 + 1 + 1 + 1) q26).2 + 1 + 1 + 1)) := (c15 _).trans (by go_simp)
      have z13x15 : y15.cell? ⟨b, off + i * 16 + 13, none⟩ = some (.string (mtx ((mExprS (m + 1 + 1 + 1 + 1 + 1 + 1 + 1 + 1) q26).2 + 1 + 1 + 1 + 1))) := (c15 _).trans (by go_simp)
      have z14x15 : y15.cell? ⟨b, off + i * 16 + 14, none⟩ = some (.string (mtx ((mExprS (m + 1 + 1 + 1 + 1 + 1 + 1 + 1 + 1) q26).2 + 1 + 1 + 1 + 1 + 1))) := (c15 _).trans (by go_simp)
      have z15x15 : y15.cell? ⟨b, off + i * 16 + 15, none⟩ = some (.slice aaq36 q36.length ccq36) := (c15 _).trans (by go_simp)
      have s15 := R15.out.size
      clear e15 c15 z0x8 z1x8 z2x8 z3x8 z4x8 z5x8 z6x8 z7x8 z8x8 z9x8 z10x8 z11x8 z12x8 z13x8 z14x8 z15x8
      clear fz n0_1 n0_2 n0_3 n0_4 n0_5 n0_6 n0_7 n0_8 n0_9 n0_10 n0_11 n0_12 n0_13 n0_14 n0_15 n1_0 n1_2 n1_3 n1_4 n1_5 n1_6 n1_7 n1_8 n1_9 n1_10 n1_11 n1_12 n1_13 n1_14 n1_15 n2_0 n2_1 n2_3 n2_4 n2_5 n2_6 n2_7 n2_8 n2_9 n2_10 n2_11 n2_12 n2_13 n2_14 n2_15 n3_0 n3_1 n3_2 n3_4 n3_5 n3_6 n3_7 n3_8 n3_9 n3_10 n3_11 n3_12 n3_13 n3_14 n3_15 n4_0 n4_1 n4_2 n4_3 n4_5 n4_6 n4_7 n4_8 n4_9 n4_10 n4_11 n4_12 n4_13 n4_14 n4_15 n5_0 n5_1 n5_2 n5_3 n5_4 n5_6 n5_7 n5_8 n5_9 n5_10 n5_11 n5_12 n5_13 n5_14 n5_15 n6_0 n6_1 n6_2 n6_3 n6_4 n6_5 n6_7 n6_8 n6_9 n6_10 n6_11 n6_12 n6_13 n6_14 n6_15 n7_0 n7_1 n7_2 n7_3 n7_4 n7_5 n7_6 n7_8 n7_9 n7_10 n7_11 n7_12 n7_13 n7_14 n7_15 n9_0 n9_1 n9_2 n9_3 n9_4 n9_5 n9_6 n9_7 n9_8 n9_10 n9_11 n9_12 n9_13 n9_14 n9_15 n10_0 n10_1 n10_2 n10_3 n10_4 n10_5 n10_6 n10_7 n10_8 n10_9 n10_11 n10_12 n10_13 n10_14 n10_15 n11_0 n11_1 n11_2 n11_3 n11_4 n11_5 n11_6 n11_7 n11_8 n11_9 n11_10 n11_12 n11_13 n11_14 n11_15 n12_0 n12_1 n12_2 n12_3 n12_4 n12_5 n12_6 n12_7 n12_8 n12_9 n12_10 n12_11 n12_13 n12_14 n12_15 n13_0 n13_1 n13_2 n13_3 n13_4 n13_5 n13_6 n13_7 n13_8 n13_9 n13_10 n13_11 n13_12 n13_14 n13_15 n14_0 n14_1 n14_2 n14_3 n14_4 n14_5 n14_6 n14_7 n14_8 n14_9 n14_10 n14_11 n14_12 n14_13 n14_15 f0 f1 f2 f3 f4 f5 f6 f7 f9 f10 f11 f12 f13 f14
      go_wp2_with fail
      refine ⟨⟨i + 1, (mExprS ((mExprS (m + 1 + 1 + 1 + 1 + 1 + 1 + 1 + 1) q26).2 + 1 + 1 + 1 + 1 + 1 + 1) q36).2, by omega, Lib.hid ?_, ?_, ?_, by go_num, rfl⟩, by simp [intOf]; omega⟩
      · rw [markK_succ mContribution k xs hlt, ← hm.out, ← HY.out]; rfl
      · rw [markT_succ mContribution k xs hlt, ← hm.out, ← HY.out]
        refine HP.out _ [.string (mtx (m)), .string (mtx (m + 1)), .int .i64 (m + 1 + 1), .int .i64 (m + 1 + 1 + 1), .int .i64 (m + 1 + 1 + 1 + 1), .int .i64 (m + 1 + 1 + 1 + 1 + 1), .string (mtx (m + 1 + 1 + 1 + 1 + 1 + 1)), .string (mtx (m + 1 + 1 + 1 + 1 + 1 + 1 + 1)), .slice aaq26 q26.length ccq26, .int .i64 ((mExprS (m + 1 + 1 + 1 + 1 + 1 + 1 + 1 + 1) q26).2), .int .i64 ((mExprS (m + 1 + 1 + 1 + 1 + 1 + 1 + 1 + 1) q26).2 + 1), .int .i64 ((mExprS (m + 1 + 1 + 1 + 1 + 1 + 1 + 1 + 1) q26).2 + 1 + 1), .int .i64 ((mExprS (m + 1 + 1 + 1 + 1 + 1 + 1 + 1 + 1) q26).2 + 1 + 1 + 1), .string (mtx ((mExprS (m + 1 + 1 + 1 + 1 + 1 + 1 + 1 + 1) q26).2 + 1 + 1 + 1 + 1)), .string (mtx ((mExprS (m + 1 + 1 + 1 + 1 + 1 + 1 + 1 + 1) q26).2 + 1 + 1 + 1 + 1 + 1)), .slice aaq36 q36.length ccq36] (mContribution m (q0, q1, (q20, q21, q22, q23, q24, q25, q26), (q30, q31, q32, q33, q34, q35, q36))).1 (by repeat (first | with_reducible refine Foc.set ?_ (by simp [Rd.n] <;> omega) (by simp [Rd.n] <;> omega) _ | with_reducible refine Foc.gr ?_ bl (Gr.ext (Gr.refl _) _) | exact F15.out)) (fun j v hj => ?_) (rdContribution_mk (mtx (m)) (mtx (m + 1)) (m + 1 + 1) (m + 1 + 1 + 1) (m + 1 + 1 + 1 + 1) (m + 1 + 1 + 1 + 1 + 1) (mtx (m + 1 + 1 + 1 + 1 + 1 + 1)) (mtx (m + 1 + 1 + 1 + 1 + 1 + 1 + 1)) ((mExprS (m + 1 + 1 + 1 + 1 + 1 + 1 + 1 + 1) q26).1) ((mExprS (m + 1 + 1 + 1 + 1 + 1 + 1 + 1 + 1) q26).2) ((mExprS (m + 1 + 1 + 1 + 1 + 1 + 1 + 1 + 1) q26).2 + 1) ((mExprS (m + 1 + 1 + 1 + 1 + 1 + 1 + 1 + 1) q26).2 + 1 + 1) ((mExprS (m + 1 + 1 + 1 + 1 + 1 + 1 + 1 + 1) q26).2 + 1 + 1 + 1) (mtx ((mExprS (m + 1 + 1 + 1 + 1 + 1 + 1 + 1 + 1) q26).2 + 1 + 1 + 1 + 1)) (mtx ((mExprS (m + 1 + 1 + 1 + 1 + 1 + 1 + 1 + 1) q26).2 + 1 + 1 + 1 + 1 + 1)) ((mExprS ((mExprS (m + 1 + 1 + 1 + 1 + 1 + 1 + 1 + 1) q26).2 + 1 + 1 + 1 + 1 + 1 + 1) q36).1) Hq0.out Hq1.out Hq20.out Hq21.out Hq22.out Hq23.out Hq24.out Hq25.out (SlR.wr Sq26x15.out (fp := [b]) (by repeat (first | with_reducible refine Wr.setCell ?_ (by simp) _ | with_reducible refine Wr.gr ?_ (Gr.ext (Gr.refl _) _) | exact Wr.refl _ _)) (by have := Hdq26.out; intro c hc hcb; simp at hcb; subst hcb; exact this hc)) Hq30.out Hq31.out Hq32.out Hq33.out Hq34.out Hq35.out (SlR.wr Sq36x15.out (fp := [b]) (by repeat (first | with_reducible refine Wr.setCell ?_ (by simp) _ | with_reducible refine Wr.gr ?_ (Gr.ext (Gr.refl _) _) | exact Wr.refl _ _)) (by have := Hdq36.out; intro c hc hcb; simp at hcb; subst hcb; exact this hc)))
        have en : off + i * Rd.n (GContribution d) = off + i * 16 := rfl
        rw [en]
        match j, hj with
        | 0, hj => obtain rfl := Option.some.inj hj; exact z0x15
        | 1, hj => obtain rfl := Option.some.inj hj; exact z1x15
        | 2, hj => obtain rfl := Option.some.inj hj; exact z2x15
        | 3, hj => obtain rfl := Option.some.inj hj; exact z3x15
        | 4, hj => obtain rfl := Option.some.inj hj; exact z4x15
        | 5, hj => obtain rfl := Option.some.inj hj; exact z5x15
        | 6, hj => obtain rfl := Option.some.inj hj; exact z6x15
        | 7, hj => obtain rfl := Option.some.inj hj; exact z7x15
        | 8, hj => obtain rfl := Option.some.inj hj; exact z8x15
        | 9, hj => obtain rfl := Option.some.inj hj; exact z9x15
        | 10, hj => obtain rfl := Option.some.inj hj; exact z10x15
        | 11, hj => obtain rfl := Option.some.inj hj; exact z11x15
        | 12, hj => obtain rfl := Option.some.inj hj; exact z12x15
        | 13, hj => obtain rfl := Option.some.inj hj; exact z13x15
        | 14, hj => obtain rfl := Option.some.inj hj; exact z14x15
        | 15, hj => obtain rfl := Option.some.inj hj; exact z15x15
      · exact HW.out.trans (Wr.sub (Foc.wr (b := b) (lo := off + i * Rd.n (GContribution d)) (n := Rd.n (GContribution d)) (fq := ([] ++ ([] ++ (([] ++ ([] ++ ([] ++ ([] ++ ([] ++ ([] ++ fq26)))))) ++ ([] ++ ([] ++ ([] ++ ([] ++ ([] ++ ([] ++ fq36)))))))))) (by repeat (first | with_reducible refine Foc.set ?_ (by simp [Rd.n] <;> omega) (by simp [Rd.n] <;> omega) _ | with_reducible refine Foc.gr ?_ bl (Gr.ext (Gr.refl _) _) | exact F15.out))) (fun c hc => by
          rcases List.mem_cons.1 hc with rfl | hc
          · exact hbm
          · exact Hsub.out c hc))
    · have hk2 : i = xs.length := by omega
      subst hk2
      have hs2 := HS.out
      rw [markT_all] at hs2
      have hm2 := hm.out
      rw [List.take_length] at hm2
      have HS2 := Lib.hid hs2
      have HM2 := Lib.hid hm2
      clear hs2 hm2 HS hm
      go_wp2
      go_ret
      exact ⟨ret_int HM2.out, HS2.out, HW.out⟩

end Go.Proofs.YtbfmeiooeaaibaaGreat

namespace Go.Proofs.YtbfmeiooeaaibaaGreat
open Go.RowKit
set_option linter.unusedVariables false
variable {d : Nat}

/-- The marks of an element. -/
def mRule (k : Int) : (GRule d) → (GRule d) × Int
  | (_, _, q2, _, q4, q5) => ((mtx (k), mtx (k + 1), (mStringS (k + 1 + 1) q2).1, mbo ((mStringS (k + 1 + 1) q2).2), (mEquationS ((mStringS (k + 1 + 1) q2).2 + 1) q4).1, (mContributionS ((mEquationS ((mStringS (k + 1 + 1) q2).2 + 1) q4).2) q5).1), (mContributionS ((mEquationS ((mStringS (k + 1 + 1) q2).2 + 1) q4).2) q5).2)
theorem mRule_bd (k : Int) (x : (GRule d)) : k ≤ (mRule k x).2 ∧ (mRule k x).2 ≤ k + 16 * (1 + wtRule x) := by
  obtain ⟨q0, q1, q2, q3, q4, q5⟩ := x
  have bq2 := mStringS_bd (k + 1 + 1) q2
  have bq4 := mEquationS_bd ((mStringS (k + 1 + 1) q2).2 + 1) q4
  have bq5 := mContributionS_bd ((mEquationS ((mStringS (k + 1 + 1) q2).2 + 1) q4).2) q5
  have hw : wtRule (q0, q1, q2, q3, q4, q5) = (q0.size) + (q1.size) + (wtStringS q2) + (wtEquationS q4) + (wtContributionS q5) := rfl
  simp only [mRule] at *
  omega
theorem mRule_mono (k : Int) (x : (GRule d)) : k ≤ (mRule k x).2 := (mRule_bd k x).1
def mRuleS (k : Int) (x : List (GRule d)) : List (GRule d) × Int := markL mRule k x
theorem mRuleS_len (k : Int) (x : List (GRule d)) : (mRuleS k x).1.length = x.length := markL_len _ _ _
theorem mRuleS_bd (k : Int) (x : List (GRule d)) : k ≤ (mRuleS k x).2 ∧ (mRuleS k x).2 ≤ k + 16 * wtRuleS x := by
  have := markL_bd mRule wtRule mRule_bd x k
  unfold mRuleS wtRuleS
  exact this
theorem mRuleS_mono (k : Int) (x : List (GRule d)) : k ≤ (mRuleS k x).2 := (mRuleS_bd k x).1

set_option maxRecDepth 10000 in
set_option maxHeartbeats 4000000 in
theorem markRuleS_any (fp : List Nat) (u : Value) (xs : List (GRule d)) (k : Int) (w : World) (hu : SlR fp w u xs) (hnd : fp.Nodup) (h0 : 0 < k) (h1 : (mRuleS k xs).2 ≤ 4398046511104) :
    Calls Tryz.prog 54 #[u, .int .i64 k] w fun e w' => e = .returned (.int .i64 (mRuleS k xs).2) ∧ SlR fp w' u (mRuleS k xs).1 ∧ Wr fp w w' := by
  obtain ⟨a, ca, rfl, g1, g2, g3⟩ := hu.open
  have H1 := Lib.hid h1
  clear h1
  go_enter Tryz.func54, Tryz.ntmps54
  go_wp2
  go_loopw [5, 1] (fun s5 s1 wr => ∃ (i : Nat) (m : Int), i ≤ xs.length ∧ Hid (m = (markL mRule k (xs.take i)).2) ∧ SlR fp wr (.slice a xs.length ca) (markT mRule k xs i) ∧ Wr fp w wr ∧ s5 = .int .i64 i ∧ s1 = .int .i64 m) (fun s5 _ _ => xs.length - (intOf s5).toNat)
  case atStart => exact ⟨0, k, by omega, Lib.hid (by simp [markL]), by rw [markT_zero]; exact hu, Wr.refl _ _, rfl, rfl⟩
  case round =>
    obtain ⟨i, m, hi, hm, hs, hW, rfl, rfl⟩ := hrel
    have HS := Lib.hid hs
    have HW := Lib.hid hW
    clear hs hW
    by_cases hlt : i < xs.length
    · obtain ⟨b, off, rfl, hb⟩ := g3 i hlt
      have hlt' : i < (markT mRule k xs i).length := by rw [markT_len]; exact hlt
      obtain ⟨cs, fq, hc, hr, hsub, hbm, hbn, hnq, hz, hput⟩ := HS.out.focus hnd hlt'
      have HP := Lib.hid hput
      rw [markT_at mRule k xs hlt] at hr
      obtain ⟨y, hy⟩ : ∃ y, y = xs[i] := ⟨_, rfl⟩
      rw [← hy] at hr
      have HY := Lib.hid hy
      have bd := markL_take mRule mRule_mono k xs (i + 1)
      have bd2 := markL_take mRule mRule_mono k xs i
      rw [markK_succ mRule k xs hlt, ← hm.out, ← hy] at bd
      rw [← hm.out] at bd2
      obtain ⟨q0, q1, q2, q3, q4, q5⟩ := y
      obtain ⟨vq2, fq2, vq4, fq4, vq5, fq5, hcs, hfq, hq0, hq1, hq2, hq4, hq5⟩ := rdRule_inv (cs := cs.toArray) q0 q1 q2 q3 q4 q5 (by simpa using hr)
      obtain rfl : cs = [.string q0, .string q1, vq2, .bool q3, vq4, vq5] := by have := congrArg Array.toList hcs; simpa using this
      rw [hfq] at hsub hbn hnq HP hput hr
      clear hfq
      have z0 : wr.cell? ⟨b, off + i * 6, none⟩ = some (.string q0) := by simpa [Rd.n] using hc 0 _ rfl
      have z1 : wr.cell? ⟨b, off + i * 6 + 1, none⟩ = some (.string q1) := hc 1 _ rfl
      have z2 : wr.cell? ⟨b, off + i * 6 + 2, none⟩ = some (vq2) := hc 2 _ rfl
      have z3 : wr.cell? ⟨b, off + i * 6 + 3, none⟩ = some (.bool q3) := hc 3 _ rfl
      have z4 : wr.cell? ⟨b, off + i * 6 + 4, none⟩ = some (vq4) := hc 4 _ rfl
      have z5 : wr.cell? ⟨b, off + i * 6 + 5, none⟩ = some (vq5) := hc 5 _ rfl
      have f0 : wr.frozen? ⟨b, off + i * 6, none⟩ = false := by simpa [Rd.n] using hz 0 (by show _ < 6; decide)
      have f1 : wr.frozen? ⟨b, off + i * 6 + 1, none⟩ = false := hz 1 (by show _ < 6; decide)
      have f3 : wr.frozen? ⟨b, off + i * 6 + 3, none⟩ = false := hz 3 (by show _ < 6; decide)
      have bl := blk z0
      have m0 : 0 < m := by omega
      have em : (mRule m (q0, q1, q2, q3, q4, q5)).2 = (mContributionS ((mEquationS ((mStringS (m + 1 + 1) q2).2 + 1) q4).2) q5).2 := rfl
      rw [em] at bd
      have bq2 := mStringS_mono (m + 1 + 1) q2
      have bq4 := mEquationS_mono ((mStringS (m + 1 + 1) q2).2 + 1) q4
      have bq5 := mContributionS_mono ((mEquationS ((mStringS (m + 1 + 1) q2).2 + 1) q4).2) q5
      have m1 : (mContributionS ((mEquationS ((mStringS (m + 1 + 1) q2).2 + 1) q4).2) q5).2 ≤ 4398046511104 := by have h := H1.out; have e : (mRuleS k xs).2 = (markL mRule k xs).2 := rfl; omega
      have n0_1 := fun (W : World) (v : Value) => cell_setCell_ne (w := W) (b := b) (o := off + i * 6) (o' := off + i * 6 + 1) (v := v) (by omega)
      have n0_2 := fun (W : World) (v : Value) => cell_setCell_ne (w := W) (b := b) (o := off + i * 6) (o' := off + i * 6 + 2) (v := v) (by omega)
      have n0_3 := fun (W : World) (v : Value) => cell_setCell_ne (w := W) (b := b) (o := off + i * 6) (o' := off + i * 6 + 3) (v := v) (by omega)
      have n0_4 := fun (W : World) (v : Value) => cell_setCell_ne (w := W) (b := b) (o := off + i * 6) (o' := off + i * 6 + 4) (v := v) (by omega)
      have n0_5 := fun (W : World) (v : Value) => cell_setCell_ne (w := W) (b := b) (o := off + i * 6) (o' := off + i * 6 + 5) (v := v) (by omega)
      have n1_0 := fun (W : World) (v : Value) => cell_setCell_ne (w := W) (b := b) (o := off + i * 6 + 1) (o' := off + i * 6) (v := v) (by omega)
      have n1_2 := fun (W : World) (v : Value) => cell_setCell_ne (w := W) (b := b) (o := off + i * 6 + 1) (o' := off + i * 6 + 2) (v := v) (by omega)
      have n1_3 := fun (W : World) (v : Value) => cell_setCell_ne (w := W) (b := b) (o := off + i * 6 + 1) (o' := off + i * 6 + 3) (v := v) (by omega)
      have n1_4 := fun (W : World) (v : Value) => cell_setCell_ne (w := W) (b := b) (o := off + i * 6 + 1) (o' := off + i * 6 + 4) (v := v) (by omega)
      have n1_5 := fun (W : World) (v : Value) => cell_setCell_ne (w := W) (b := b) (o := off + i * 6 + 1) (o' := off + i * 6 + 5) (v := v) (by omega)
      have n3_0 := fun (W : World) (v : Value) => cell_setCell_ne (w := W) (b := b) (o := off + i * 6 + 3) (o' := off + i * 6) (v := v) (by omega)
      have n3_1 := fun (W : World) (v : Value) => cell_setCell_ne (w := W) (b := b) (o := off + i * 6 + 3) (o' := off + i * 6 + 1) (v := v) (by omega)
      have n3_2 := fun (W : World) (v : Value) => cell_setCell_ne (w := W) (b := b) (o := off + i * 6 + 3) (o' := off + i * 6 + 2) (v := v) (by omega)
      have n3_4 := fun (W : World) (v : Value) => cell_setCell_ne (w := W) (b := b) (o := off + i * 6 + 3) (o' := off + i * 6 + 4) (v := v) (by omega)
      have n3_5 := fun (W : World) (v : Value) => cell_setCell_ne (w := W) (b := b) (o := off + i * 6 + 3) (o' := off + i * 6 + 5) (v := v) (by omega)
      have fz := fun (W : World) (o o' : Nat) (v : Value) => (frozen_setCell' : (W.setCell ⟨b, o, none⟩ v).frozen? ⟨b, o', none⟩ = W.frozen? ⟨b, o', none⟩)
      have Hq0 := Lib.hid (mtx_size (m) (by omega))
      have Hq1 := Lib.hid (mtx_size (m + 1) (by omega))
      have N0 : (fq2 ++ (fq4 ++ (fq5))).Nodup := by simpa only [List.nil_append, List.append_nil] using hnq
      have M0 : b ∉ fq2 ++ (fq4 ++ (fq5)) := by simpa only [List.nil_append, List.append_nil] using hbn
      obtain ⟨uq0, N1, R0⟩ := nodup_app N0
      obtain ⟨uq1, N2, R1⟩ := nodup_app N1
      have uq2 := uq0
      have dq2 : b ∉ fq2 := fun h => M0 (by simp [h])
      have uq4 := uq1
      have dq4 : b ∉ fq4 := fun h => M0 (by simp [h])
      have uq5 := N2
      have dq5 : b ∉ fq5 := fun h => M0 (by simp [h])
      have aq2_q4 : ∀ c ∈ fq2, c ∉ fq4 := fun c h1 h2 => R0 c h1 (by simp [h2])
      have aq4_q2 : ∀ c ∈ fq4, c ∉ fq2 := fun c h1 h2 => R0 c h2 (by simp [h1])
      have aq2_q5 : ∀ c ∈ fq2, c ∉ fq5 := fun c h1 h2 => R0 c h1 (by simp [h2])
      have aq5_q2 : ∀ c ∈ fq5, c ∉ fq2 := fun c h1 h2 => R0 c h2 (by simp [h1])
      have aq4_q5 : ∀ c ∈ fq4, c ∉ fq5 := fun c h1 h2 => R1 c h1 (by simp [h2])
      have aq5_q4 : ∀ c ∈ fq5, c ∉ fq4 := fun c h1 h2 => R1 c h2 (by simp [h1])
      have Sq2 := Lib.hid hq2
      obtain ⟨aaq2, ccq2, rfl, -, -, -⟩ := hq2.open
      have Sq4 := Lib.hid hq4
      obtain ⟨aaq4, ccq4, rfl, -, -, -⟩ := hq4.open
      have Sq5 := Lib.hid hq5
      obtain ⟨aaq5, ccq5, rfl, -, -, -⟩ := hq5.open
      have Haq2_q4 := Lib.hid aq2_q4
      have Haq2_q5 := Lib.hid aq2_q5
      have Haq4_q2 := Lib.hid aq4_q2
      have Haq4_q5 := Lib.hid aq4_q5
      have Haq5_q2 := Lib.hid aq5_q2
      have Haq5_q4 := Lib.hid aq5_q4
      have Hdq2 := Lib.hid dq2
      have Hdq4 := Lib.hid dq4
      have Hdq5 := Lib.hid dq5
      have Huq2 := Lib.hid uq2
      have Huq4 := Lib.hid uq4
      have Huq5 := Lib.hid uq5
      clear aq2_q4 aq2_q5 aq4_q2 aq4_q5 aq5_q2 aq5_q4 dq2 dq4 dq5 uq2 uq4 uq5 M0 N0 N1 N2 uq0 R0 uq1 R1 hq2 hq4 hq5
      clear hc hz hput bd2 g3 em hy hr hcs hq0 hq1
      have Hbn := Lib.hid hbn
      have Hnq := Lib.hid hnq
      have Hsub := Lib.hid hsub
      clear hbn hnq hsub
      go_wp2_with fail
      refine (markText_any (m) _ (by omega) (by omega)).mono ?_
      rintro e w0 ⟨rfl, x0, rfl⟩
      go_wp2_with fail
      refine (markText_any (m + 1) _ (by omega) (by omega)).mono ?_
      rintro e w1 ⟨rfl, x1, rfl⟩
      go_wp2_with fail
      refine (markStringS_any fq2 _ q2 (m + 1 + 1) _ ((SlR.wr Sq2.out (fp := [b]) (by repeat (first | with_reducible refine Wr.setCell ?_ (by simp) _ | with_reducible refine Wr.gr ?_ (Gr.ext (Gr.refl _) _) | exact Wr.refl _ _)) (by have := Hdq2.out; intro c hc hcb; simp at hcb; subst hcb; exact this hc))) Huq2.out (by omega) (by show (mStringS (m + 1 + 1) q2).2 ≤ _; omega)).mono ?_
      rintro e y2 ⟨rfl, t2, r2⟩
      have T2 := Lib.hid t2
      have R2 := Lib.hid r2
      clear t2 r2
      have F2 := Lib.hid (Foc.inner (b := b) (lo := off + i * Rd.n (GRule d)) (n := Rd.n (GRule d)) (fq := ([] ++ ([] ++ (fq2 ++ ([] ++ (fq4 ++ fq5)))))) (w := wr) (by repeat (first | with_reducible refine Foc.set ?_ (by simp [Rd.n] <;> omega) (by simp [Rd.n] <;> omega) _ | with_reducible refine Foc.gr ?_ bl (Gr.ext (Gr.refl _) _) | exact Foc.refl _ _ _ _ _)) bl R2.out (by intro c hc; simp [hc]) Hdq2.out)
      have Sq2x2 := T2
      have Sq4x2 := Lib.hid (SlR.wr (SlR.wr Sq4.out (fp := [b]) (by repeat (first | with_reducible refine Wr.setCell ?_ (by simp) _ | with_reducible refine Wr.gr ?_ (Gr.ext (Gr.refl _) _) | exact Wr.refl _ _)) (by have := Hdq4.out; intro c hc hcb; simp at hcb; subst hcb; exact this hc)) R2.out Haq4_q2.out)
      have Sq5x2 := Lib.hid (SlR.wr (SlR.wr Sq5.out (fp := [b]) (by repeat (first | with_reducible refine Wr.setCell ?_ (by simp) _ | with_reducible refine Wr.gr ?_ (Gr.ext (Gr.refl _) _) | exact Wr.refl _ _)) (by have := Hdq5.out; intro c hc hcb; simp at hcb; subst hcb; exact this hc)) R2.out Haq5_q2.out)
      have e2 := R2.out.block b (Nat.lt_of_lt_of_le bl (Foc.wr (b := b) (lo := off + i * Rd.n (GRule d)) (n := Rd.n (GRule d)) (fq := ([] ++ ([] ++ (fq2 ++ ([] ++ (fq4 ++ fq5)))))) (w := wr) (by repeat (first | with_reducible refine Foc.set ?_ (by simp [Rd.n] <;> omega) (by simp [Rd.n] <;> omega) _ | with_reducible refine Foc.gr ?_ bl (Gr.ext (Gr.refl _) _) | exact Foc.refl _ _ _ _ _))).size) Hdq2.out
      have c2 := fun (o : Nat) => World.cell?_of_block (a := ⟨b, o, none⟩) e2
      have z0x2 : y2.cell? ⟨b, off + i * 6, none⟩ = some (.string (mtx (m))) := (c2 _).trans (by go_simp)
      have z1x2 : y2.cell? ⟨b, off + i * 6 + 1, none⟩ = some (.string (mtx (m + 1))) := (c2 _).trans (by go_simp)
      have z2x2 : y2.cell? ⟨b, off + i * 6 + 2, none⟩ = some (.slice aaq2 q2.length ccq2) := (c2 _).trans (by go_simp)
      have z3x2 : y2.cell? ⟨b, off + i * 6 + 3, none⟩ = some (.bool q3) := (c2 _).trans (by go_simp)
      have z4x2 : y2.cell? ⟨b, off + i * 6 + 4, none⟩ = some (.slice aaq4 q4.length ccq4) := (c2 _).trans (by go_simp)
      have z5x2 : y2.cell? ⟨b, off + i * 6 + 5, none⟩ = some (.slice aaq5 q5.length ccq5) := (c2 _).trans (by go_simp)
      have bl2 := blk z0x2
      have v2 := fun (o : Nat) => World.frozen?_of_block (a := ⟨b, o, none⟩) e2
      have s2 := R2.out.size
      clear e2 c2 z0 z1 z2 z3 z4 z5
      go_wp2_with fail
      refine (markEquationS_any fq4 _ q4 ((mStringS (m + 1 + 1) q2).2 + 1) _ ((SlR.wr Sq4x2.out (fp := [b]) (by repeat (first | with_reducible refine Wr.setCell ?_ (by simp) _ | with_reducible refine Wr.gr ?_ (Gr.ext (Gr.refl _) _) | exact Wr.refl _ _)) (by have := Hdq4.out; intro c hc hcb; simp at hcb; subst hcb; exact this hc))) Huq4.out (by omega) (by show (mEquationS ((mStringS (m + 1 + 1) q2).2 + 1) q4).2 ≤ _; omega)).mono ?_
      rintro e y4 ⟨rfl, t4, r4⟩
      have T4 := Lib.hid t4
      have R4 := Lib.hid r4
      clear t4 r4
      have F4 := Lib.hid (Foc.inner (b := b) (lo := off + i * Rd.n (GRule d)) (n := Rd.n (GRule d)) (fq := ([] ++ ([] ++ (fq2 ++ ([] ++ (fq4 ++ fq5)))))) (w := wr) (by repeat (first | with_reducible refine Foc.set ?_ (by simp [Rd.n] <;> omega) (by simp [Rd.n] <;> omega) _ | with_reducible refine Foc.gr ?_ bl (Gr.ext (Gr.refl _) _) | exact F2.out)) bl R4.out (by intro c hc; simp [hc]) Hdq4.out)
      have Sq2x4 := Lib.hid (SlR.wr (SlR.wr Sq2x2.out (fp := [b]) (by repeat (first | with_reducible refine Wr.setCell ?_ (by simp) _ | with_reducible refine Wr.gr ?_ (Gr.ext (Gr.refl _) _) | exact Wr.refl _ _)) (by have := Hdq2.out; intro c hc hcb; simp at hcb; subst hcb; exact this hc)) R4.out Haq2_q4.out)
      have Sq4x4 := T4
      have Sq5x4 := Lib.hid (SlR.wr (SlR.wr Sq5x2.out (fp := [b]) (by repeat (first | with_reducible refine Wr.setCell ?_ (by simp) _ | with_reducible refine Wr.gr ?_ (Gr.ext (Gr.refl _) _) | exact Wr.refl _ _)) (by have := Hdq5.out; intro c hc hcb; simp at hcb; subst hcb; exact this hc)) R4.out Haq5_q4.out)
      have e4 := R4.out.block b (Nat.lt_of_lt_of_le bl (Foc.wr (b := b) (lo := off + i * Rd.n (GRule d)) (n := Rd.n (GRule d)) (fq := ([] ++ ([] ++ (fq2 ++ ([] ++ (fq4 ++ fq5)))))) (w := wr) (by repeat (first | with_reducible refine Foc.set ?_ (by simp [Rd.n] <;> omega) (by simp [Rd.n] <;> omega) _ | with_reducible refine Foc.gr ?_ bl (Gr.ext (Gr.refl _) _) | exact F2.out))).size) Hdq4.out
      have c4 := fun (o : Nat) => World.cell?_of_block (a := ⟨b, o, none⟩) e4
      have z0x4 : y4.cell? ⟨b, off + i * 6, none⟩ = some (.string (mtx (m))) := (c4 _).trans (by go_simp)
      have z1x4 : y4.cell? ⟨b, off + i * 6 + 1, none⟩ = some (.string (mtx (m + 1))) := (c4 _).trans (by go_simp)
      have z2x4 : y4.cell? ⟨b, off + i * 6 + 2, none⟩ = some (.slice aaq2 q2.length ccq2) := (c4 _).trans (by go_simp)
      have z3x4 : y4.cell? ⟨b, off + i * 6 + 3, none⟩ = some (.bool (mbo ((mStringS (m + 1 + 1) q2).2))) := (c4 _).trans (by go_simp)
      have z4x4 : y4.cell? ⟨b, off + i * 6 + 4, none⟩ = some (.slice aaq4 q4.length ccq4) := (c4 _).trans (by go_simp)
      have z5x4 : y4.cell? ⟨b, off + i * 6 + 5, none⟩ = some (.slice aaq5 q5.length ccq5) := (c4 _).trans (by go_simp)
      have s4 := R4.out.size
      clear e4 c4 z0x2 z1x2 z2x2 z3x2 z4x2 z5x2
      clear fz n0_1 n0_2 n0_3 n0_4 n0_5 n1_0 n1_2 n1_3 n1_4 n1_5 n3_0 n3_1 n3_2 n3_4 n3_5 f0 f1 f3
      go_wp2_with fail
      refine (markContributionS_any fq5 _ q5 ((mEquationS ((mStringS (m + 1 + 1) q2).2 + 1) q4).2) _ ((SlR.wr Sq5x4.out (fp := [b]) (by repeat (first | with_reducible refine Wr.setCell ?_ (by simp) _ | with_reducible refine Wr.gr ?_ (Gr.ext (Gr.refl _) _) | exact Wr.refl _ _)) (by have := Hdq5.out; intro c hc hcb; simp at hcb; subst hcb; exact this hc))) Huq5.out (by omega) (by show (mContributionS ((mEquationS ((mStringS (m + 1 + 1) q2).2 + 1) q4).2) q5).2 ≤ _; omega)).mono ?_
      rintro e y5 ⟨rfl, t5, r5⟩
      have T5 := Lib.hid t5
      have R5 := Lib.hid r5
      clear t5 r5
      have F5 := Lib.hid (Foc.inner (b := b) (lo := off + i * Rd.n (GRule d)) (n := Rd.n (GRule d)) (fq := ([] ++ ([] ++ (fq2 ++ ([] ++ (fq4 ++ fq5)))))) (w := wr) (by repeat (first | with_reducible refine Foc.set ?_ (by simp [Rd.n] <;> omega) (by simp [Rd.n] <;> omega) _ | with_reducible refine Foc.gr ?_ bl (Gr.ext (Gr.refl _) _) | exact F4.out)) bl R5.out (by intro c hc; simp [hc]) Hdq5.out)
      have Sq2x5 := Lib.hid (SlR.wr (SlR.wr Sq2x4.out (fp := [b]) (by repeat (first | with_reducible refine Wr.setCell ?_ (by simp) _ | with_reducible refine Wr.gr ?_ (Gr.ext (Gr.refl _) _) | exact Wr.refl _ _)) (by have := Hdq2.out; intro c hc hcb; simp at hcb; subst hcb; exact this hc)) R5.out Haq2_q5.out)
      have Sq4x5 := Lib.hid (SlR.wr (SlR.wr Sq4x4.out (fp := [b]) (by repeat (first | with_reducible refine Wr.setCell ?_ (by simp) _ | with_reducible refine Wr.gr ?_ (Gr.ext (Gr.refl _) _) | exact Wr.refl _ _)) (by have := Hdq4.out; intro c hc hcb; simp at hcb; subst hcb; exact this hc)) R5.out Haq4_q5.out)
      have Sq5x5 := T5
      have e5 := R5.out.block b (Nat.lt_of_lt_of_le bl (Foc.wr (b := b) (lo := off + i * Rd.n (GRule d)) (n := Rd.n (GRule d)) (fq := ([] ++ ([] ++ (fq2 ++ ([] ++ (fq4 ++ fq5)))))) (w := wr) (by repeat (first | with_reducible refine Foc.set ?_ (by simp [Rd.n] <;> omega) (by simp [Rd.n] <;> omega) _ | with_reducible refine Foc.gr ?_ bl (Gr.ext (Gr.refl _) _) | exact F4.out))).size) Hdq5.out
      have c5 := fun (o : Nat) => World.cell?_of_block (a := ⟨b, o, none⟩) e5
      have z0x5 : y5.cell? ⟨b, off + i * 6, none⟩ = some (.string (mtx (m))) := (c5 _).trans z0x4
      have z1x5 : y5.cell? ⟨b, off + i * 6 + 1, none⟩ = some (.string (mtx (m + 1))) := (c5 _).trans z1x4
      have z2x5 : y5.cell? ⟨b, off + i * 6 + 2, none⟩ = some (.slice aaq2 q2.length ccq2) := (c5 _).trans z2x4
      have z3x5 : y5.cell? ⟨b, off + i * 6 + 3, none⟩ = some (.bool (mbo ((mStringS (m + 1 + 1) q2).2))) := (c5 _).trans z3x4
      have z4x5 : y5.cell? ⟨b, off + i * 6 + 4, none⟩ = some (.slice aaq4 q4.length ccq4) := (c5 _).trans z4x4
      have z5x5 : y5.cell? ⟨b, off + i * 6 + 5, none⟩ = some (.slice aaq5 q5.length ccq5) := (c5 _).trans z5x4
      have s5 := R5.out.size
      clear e5 c5 z0x4 z1x4 z2x4 z3x4 z4x4 z5x4
      go_wp2_with fail
      refine ⟨⟨i + 1, (mContributionS ((mEquationS ((mStringS (m + 1 + 1) q2).2 + 1) q4).2) q5).2, by omega, Lib.hid ?_, ?_, ?_, by go_num, rfl⟩, by simp [intOf]; omega⟩
      · rw [markK_succ mRule k xs hlt, ← hm.out, ← HY.out]; rfl
      · rw [markT_succ mRule k xs hlt, ← hm.out, ← HY.out]
        refine HP.out _ [.string (mtx (m)), .string (mtx (m + 1)), .slice aaq2 q2.length ccq2, .bool (mbo ((mStringS (m + 1 + 1) q2).2)), .slice aaq4 q4.length ccq4, .slice aaq5 q5.length ccq5] (mRule m (q0, q1, q2, q3, q4, q5)).1 (by repeat (first | with_reducible refine Foc.set ?_ (by simp [Rd.n] <;> omega) (by simp [Rd.n] <;> omega) _ | with_reducible refine Foc.gr ?_ bl (Gr.ext (Gr.refl _) _) | exact F5.out)) (fun j v hj => ?_) (rdRule_mk (mtx (m)) (mtx (m + 1)) ((mStringS (m + 1 + 1) q2).1) (mbo ((mStringS (m + 1 + 1) q2).2)) ((mEquationS ((mStringS (m + 1 + 1) q2).2 + 1) q4).1) ((mContributionS ((mEquationS ((mStringS (m + 1 + 1) q2).2 + 1) q4).2) q5).1) Hq0.out Hq1.out (SlR.wr Sq2x5.out (fp := [b]) (by repeat (first | with_reducible refine Wr.setCell ?_ (by simp) _ | with_reducible refine Wr.gr ?_ (Gr.ext (Gr.refl _) _) | exact Wr.refl _ _)) (by have := Hdq2.out; intro c hc hcb; simp at hcb; subst hcb; exact this hc)) (SlR.wr Sq4x5.out (fp := [b]) (by repeat (first | with_reducible refine Wr.setCell ?_ (by simp) _ | with_reducible refine Wr.gr ?_ (Gr.ext (Gr.refl _) _) | exact Wr.refl _ _)) (by have := Hdq4.out; intro c hc hcb; simp at hcb; subst hcb; exact this hc)) (SlR.wr Sq5x5.out (fp := [b]) (by repeat (first | with_reducible refine Wr.setCell ?_ (by simp) _ | with_reducible refine Wr.gr ?_ (Gr.ext (Gr.refl _) _) | exact Wr.refl _ _)) (by have := Hdq5.out; intro c hc hcb; simp at hcb; subst hcb; exact this hc)))
        have en : off + i * Rd.n (GRule d) = off + i * 6 := rfl
        rw [en]
        match j, hj with
        | 0, hj => obtain rfl := Option.some.inj hj; exact z0x5
        | 1, hj => obtain rfl := Option.some.inj hj; exact z1x5
        | 2, hj => obtain rfl := Option.some.inj hj; exact z2x5
        | 3, hj => obtain rfl := Option.some.inj hj; exact z3x5
        | 4, hj => obtain rfl := Option.some.inj hj; exact z4x5
        | 5, hj => obtain rfl := Option.some.inj hj; exact z5x5
      · exact HW.out.trans (Wr.sub (Foc.wr (b := b) (lo := off + i * Rd.n (GRule d)) (n := Rd.n (GRule d)) (fq := ([] ++ ([] ++ (fq2 ++ ([] ++ (fq4 ++ fq5)))))) (by repeat (first | with_reducible refine Foc.set ?_ (by simp [Rd.n] <;> omega) (by simp [Rd.n] <;> omega) _ | with_reducible refine Foc.gr ?_ bl (Gr.ext (Gr.refl _) _) | exact F5.out))) (fun c hc => by
          rcases List.mem_cons.1 hc with rfl | hc
          · exact hbm
          · exact Hsub.out c hc))
    · have hk2 : i = xs.length := by omega
      subst hk2
      have hs2 := HS.out
      rw [markT_all] at hs2
      have hm2 := hm.out
      rw [List.take_length] at hm2
      have HS2 := Lib.hid hs2
      have HM2 := Lib.hid hm2
      clear hs2 hm2 HS hm
      go_wp2
      go_ret
      exact ⟨ret_int HM2.out, HS2.out, HW.out⟩

/-- The marks of a value. -/
def vGrammar (k : Int) : (GGrammar d) → (GGrammar d) × Int
  | (q0, q1) => (((mSymbolS (k) q0).1, (mRuleS ((mSymbolS (k) q0).2) q1).1), (mRuleS ((mSymbolS (k) q0).2) q1).2)
theorem vGrammar_bd (k : Int) (x : (GGrammar d)) : k ≤ (vGrammar k x).2 ∧ (vGrammar k x).2 ≤ k + 16 * (1 + wtGrammar x) := by
  obtain ⟨q0, q1⟩ := x
  have bq0 := mSymbolS_bd (k) q0
  have bq1 := mRuleS_bd ((mSymbolS (k) q0).2) q1
  have hw : wtGrammar (q0, q1) = (wtSymbolS q0) + (wtRuleS q1) := rfl
  simp only [vGrammar] at *
  omega

set_option maxHeartbeats 1000000 in
theorem markGrammar_any (fp : List Nat) (cs : Array Value) (x : (GGrammar d)) (k : Int) (w : World) (hx : Rd.rd fp w cs.toList x) (hnd : fp.Nodup) (h0 : 0 < k) (h1 : (vGrammar k x).2 ≤ 4398046511104) :
    Calls Tryz.prog 17 #[.agg cs, .int .i64 k] w fun e w' => e = .returned (.int .i64 (vGrammar k x).2) ∧ Rd.rd fp w' cs.toList (vGrammar k x).1 ∧ Wr fp w w' := by
  have hlt := Rd.lt hx
  obtain ⟨q0, q1⟩ := x
  obtain ⟨vq0, fq0, vq1, fq1, rfl, hfq, hq0, hq1⟩ := rdGrammar_inv q0 q1 hx
  rw [hfq] at hlt hnd hx ⊢
  clear hfq
  have m1 : (mRuleS ((mSymbolS (k) q0).2) q1).2 ≤ 4398046511104 := h1
  have N0 : (fq0 ++ (fq1)).Nodup := by simpa only [List.nil_append, List.append_nil] using hnd
  have L0 : ∀ c ∈ (fq0 ++ (fq1)), c < w.heap.size := by simpa only [List.nil_append, List.append_nil] using hlt
  obtain ⟨uq0, N1, R0⟩ := nodup_app N0
  have uq0 := uq0
  have Hlq0 := Lib.hid (fun c (h : c ∈ fq0) => L0 c (by simp [h]))
  have uq1 := N1
  have Hlq1 := Lib.hid (fun c (h : c ∈ fq1) => L0 c (by simp [h]))
  have Haq0_q1 := Lib.hid (fun c (h1 : c ∈ fq0) (h2 : c ∈ fq1) => R0 c h1 (by simp [h2]))
  have Haq1_q0 := Lib.hid (fun c (h1 : c ∈ fq1) (h2 : c ∈ fq0) => R0 c h2 (by simp [h1]))
  have Huq0 := Lib.hid uq0
  have Huq1 := Lib.hid uq1
  have bq0 := mSymbolS_mono (k) q0
  have bq1 := mRuleS_mono ((mSymbolS (k) q0).2) q1
  have Sq0 := Lib.hid hq0
  obtain ⟨aq0, cq0, rfl, -, -, -⟩ := hq0.open
  have Sq1 := Lib.hid hq1
  obtain ⟨aq1, cq1, rfl, -, -, -⟩ := hq1.open
  clear hx hlt h1 hnd L0  hq0 hq1 uq0 uq1 R0 N0
  go_enter Tryz.func17, Tryz.ntmps17
  go_wp2_with fail
  refine (markSymbolS_any fq0 _ q0 (k) _ (Sq0.out.gr (by repeat (first | exact Gr.refl _ | apply Gr.ext | apply Gr.alloc | apply Gr.drew))) Huq0.out (by omega) (by show (mSymbolS (k) q0).2 ≤ _; omega)).mono ?_
  rintro e y0 ⟨rfl, t0, r0⟩
  have T0 := Lib.hid t0
  have R0 := Lib.hid r0
  clear t0 r0
  have W0 := Lib.hid ((Gr.toWr (by exact (by repeat (first | exact Gr.refl _ | apply Gr.ext | apply Gr.alloc | apply Gr.drew)) : Gr w (w.alloc (.cells #[.slice aq0 q0.length cq0, .slice aq1 q1.length cq1] 43))) (fq0 ++ (fq1))).trans (R0.out.sub (fun c hc => by simp [hc])))
  have Sq1x0 := Lib.hid (SlR.wr (Sq1.out.gr (by repeat (first | exact Gr.refl _ | apply Gr.ext | apply Gr.alloc | apply Gr.drew))) R0.out Haq1_q0.out)
  have e0 := R0.out.block w.heap.size (by simp) (fun h => Nat.lt_irrefl _ (Hlq0.out _ h))
  have c0 := fun (o : Nat) => World.cell?_of_block (a := ⟨w.heap.size, o, none⟩) e0
  have z1x0 : y0.cell? ⟨w.heap.size, 1, none⟩ = some (.slice aq1 q1.length cq1) := (c0 _).trans (box_cell rfl rfl)
  have s0 := blk z1x0
  clear e0 c0
  go_wp2_with fail
  refine (markRuleS_any fq1 _ q1 ((mSymbolS (k) q0).2) _ Sq1x0.out Huq1.out (by omega) (by show (mRuleS ((mSymbolS (k) q0).2) q1).2 ≤ _; omega)).mono ?_
  rintro e y1 ⟨rfl, t1, r1⟩
  have T1 := Lib.hid t1
  have R1 := Lib.hid r1
  clear t1 r1
  have W1 := Lib.hid (W0.out.trans (R1.out.sub (fun c hc => by simp [hc])))
  have Sq0x1 := Lib.hid (SlR.wr T0.out R1.out Haq0_q1.out)
  go_wp2_with fail
  go_ret
  refine ⟨rfl, ?_, W1.out.sub (fun c hc => by simpa using hc)⟩
  have hl := rdGrammar_mk ((mSymbolS (k) q0).1) ((mRuleS ((mSymbolS (k) q0).2) q1).1) Sq0x1.out T1.out
  exact hl

end Go.Proofs.YtbfmeiooeaaibaaGreat
