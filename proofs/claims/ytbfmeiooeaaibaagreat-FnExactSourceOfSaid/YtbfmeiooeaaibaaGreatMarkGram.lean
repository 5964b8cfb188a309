/- Contracts of the functions that mark and look at marks: Rule*:m, Grammar:m. Made by mk_mark.py. No condition. -/
import Derived.Test.YtbfmeiooeaaibaaGreatXMark
import Derived.Test.YtbfmeiooeaaibaaGreatXMarkG
import Derived.Test.YtbfmeiooeaaibaaGreatMarkGramD
import Derived.Test.YtbfmeiooeaaibaaGreatFamGram
namespace Go.Proofs.YtbfmeiooeaaibaaGreat
open Go.RowKit
set_option linter.unusedVariables false
variable {d : Nat}

/-- The marks of an element. -/
def mRule (k : Int) : (GRule d) → (GRule d) × Int
  | (_, _, q2, _, q4, q5) => ((mtx (k), mtx (k + 1), (mStringS (k + 1 + 1) q2).1, mbo ((mStringS (k + 1 + 1) q2).2), (mEquationS ((mStringS (k + 1 + 1) q2).2 + 1) q4).1, (mContributionS ((mEquationS ((mStringS (k + 1 + 1) q2).2 + 1) q4).2) q5).1), (mContributionS ((mEquationS ((mStringS (k + 1 + 1) q2).2 + 1) q4).2) q5).2)
theorem mRule_bd (k : Int) (x : (GRule d)) : k ≤ (mRule k x).2 ∧ (mRule k x).2 ≤ k + 16 * (1 + wtRule x) := by
  obtain ⟨q0, q1, q2, q3, q4, q5⟩ := x
  have bq2 := mStringS_bd (k + 1 + 1) q2
  have bq4 := mEquationS_bd ((mStringS (k + 1 + 1) q2).2 + 1) q4
  have bq5 := mContributionS_bd ((mEquationS ((mStringS (k + 1 + 1) q2).2 + 1) q4).2) q5
  have hw : wtRule (q0, q1, q2, q3, q4, q5) = (q0.size) + (q1.size) + (wtStringS q2) + (wtEquationS q4) + (wtContributionS q5) := rfl
  simp only [mRule] at *
  omega
theorem mRule_mono (k : Int) (x : (GRule d)) : k ≤ (mRule k x).2 := (mRule_bd k x).1
def mRuleS (k : Int) (x : List (GRule d)) : List (GRule d) × Int := markL mRule k x
theorem mRuleS_len (k : Int) (x : List (GRule d)) : (mRuleS k x).1.length = x.length := markL_len _ _ _
theorem mRuleS_bd (k : Int) (x : List (GRule d)) : k ≤ (mRuleS k x).2 ∧ (mRuleS k x).2 ≤ k + 16 * wtRuleS x := by
  have := markL_bd mRule wtRule mRule_bd x k
  unfold mRuleS wtRuleS
  exact this
theorem mRuleS_mono (k : Int) (x : List (GRule d)) : k ≤ (mRuleS k x).2 := (mRuleS_bd k x).1

set_option maxRecDepth 10000 in
set_option maxHeartbeats 4000000 in
theorem markRuleS_any (fp : List Nat) (u : Value) (xs : List (GRule d)) (k : Int) (w : World) (hu : SlR fp w u xs) (hnd : fp.Nodup) (h0 : 0 < k) (h1 : (mRuleS k xs).2 ≤ 4398046511104) :
    Calls Tryz.prog 54 #[u, .int .i64 k] w fun e w' => e = .returned (.int .i64 (mRuleS k xs).2) ∧ SlR fp w' u (mRuleS k xs).1 ∧ Wr fp w w' := by
  obtain ⟨a, ca, rfl, g1, g2, g3⟩ := hu.open
  have H1 := Lib.hid h1
  clear h1
  go_enter Tryz.func54, Tryz.ntmps54
  go_wp2
  go_loopw [5, 1] (fun s5 s1 wr => ∃ (i : Nat) (m : Int), i ≤ xs.length ∧ Hid (m = (markL mRule k (xs.take i)).2) ∧ SlR fp wr (.slice a xs.length ca) (markT mRule k xs i) ∧ Wr fp w wr ∧ s5 = .int .i64 i ∧ s1 = .int .i64 m) (fun s5 _ _ => xs.length - (intOf s5).toNat)
  case atStart => exact ⟨0, k, by omega, Lib.hid (by simp [markL]), by rw [markT_zero]; exact hu, Wr.refl _ _, rfl, rfl⟩
  case round =>
    obtain ⟨i, m, hi, hm, hs, hW, rfl, rfl⟩ := hrel
    have HS := Lib.hid hs
    have HW := Lib.hid hW
    clear hs hW
    by_cases hlt : i < xs.length
    · obtain ⟨b, off, rfl, hb⟩ := g3 i hlt
      have hlt' : i < (markT mRule k xs i).length := by rw [markT_len]; exact hlt
      obtain ⟨cs, fq, hc, hr, hsub, hbm, hbn, hnq, hz, hput⟩ := HS.out.focus hnd hlt'
      have HP := Lib.hid hput
      rw [markT_at mRule k xs hlt] at hr
      obtain ⟨y, hy⟩ : ∃ y, y = xs[i] := ⟨_, rfl⟩
      rw [← hy] at hr
      have HY := Lib.hid hy
      have bd := markL_take mRule mRule_mono k xs (i + 1)
      have bd2 := markL_take mRule mRule_mono k xs i
      rw [markK_succ mRule k xs hlt, ← hm.out, ← hy] at bd
      rw [← hm.out] at bd2
      obtain ⟨q0, q1, q2, q3, q4, q5⟩ := y
      obtain ⟨vq2, fq2, vq4, fq4, vq5, fq5, hcs, hfq, hq0, hq1, hq2, hq4, hq5⟩ := rdRule_inv (cs := cs.toArray) q0 q1 q2 q3 q4 q5 (by simpa using hr)
      obtain rfl : cs = [.string q0, .string q1, vq2, .bool q3, vq4, vq5] := by have := congrArg Array.toList hcs; simpa using this
      rw [hfq] at hsub hbn hnq HP hput hr
      clear hfq
      have z0 : wr.cell? ⟨b, off + i * 6, none⟩ = some (.string q0) := by simpa [Rd.n] using hc 0 _ rfl
      have z1 : wr.cell? ⟨b, off + i * 6 + 1, none⟩ = some (.string q1) := hc 1 _ rfl
      have z2 : wr.cell? ⟨b, off + i * 6 + 2, none⟩ = some (vq2) := hc 2 _ rfl
      have z3 : wr.cell? ⟨b, off + i * 6 + 3, none⟩ = some (.bool q3) := hc 3 _ rfl
      have z4 : wr.cell? ⟨b, off + i * 6 + 4, none⟩ = some (vq4) := hc 4 _ rfl
      have z5 : wr.cell? ⟨b, off + i * 6 + 5, none⟩ = some (vq5) := hc 5 _ rfl
      have f0 : wr.frozen? ⟨b, off + i * 6, none⟩ = false := by simpa [Rd.n] using hz 0 (by show _ < 6; decide)
      have f1 : wr.frozen? ⟨b, off + i * 6 + 1, none⟩ = false := hz 1 (by show _ < 6; decide)
      have f3 : wr.frozen? ⟨b, off + i * 6 + 3, none⟩ = false := hz 3 (by show _ < 6; decide)
      have bl := blk z0
      have m0 : 0 < m := by omega
      have em : (mRule m (q0, q1, q2, q3, q4, q5)).2 = (mContributionS ((mEquationS ((mStringS (m + 1 + 1) q2).2 + 1) q4).2) q5).2 := rfl
      rw [em] at bd
      have bq2 := mStringS_mono (m + 1 + 1) q2
      have bq4 := mEquationS_mono ((mStringS (m + 1 + 1) q2).2 + 1) q4
      have bq5 := mContributionS_mono ((mEquationS ((mStringS (m + 1 + 1) q2).2 + 1) q4).2) q5
      have m1 : (mContributionS ((mEquationS ((mStringS (m + 1 + 1) q2).2 + 1) q4).2) q5).2 ≤ 4398046511104 := by have h := H1.out; have e : (mRuleS k xs).2 = (markL mRule k xs).2 := rfl; omega
      have n0_1 := fun (W : World) (v : Value) => cell_setCell_ne (w := W) (b := b) (o := off + i * 6) (o' := off + i * 6 + 1) (v := v) (by omega)
      have n0_2 := fun (W : World) (v : Value) => cell_setCell_ne (w := W) (b := b) (o := off + i * 6) (o' := off + i * 6 + 2) (v := v) (by omega)
      have n0_3 := fun (W : World) (v : Value) => cell_setCell_ne (w := W) (b := b) (o := off + i * 6) (o' := off + i * 6 + 3) (v := v) (by omega)
      have n0_4 := fun (W : World) (v : Value) => cell_setCell_ne (w := W) (b := b) (o := off + i * 6) (o' := off + i * 6 + 4) (v := v) (by omega)
      have n0_5 := fun (W : World) (v : Value) => cell_setCell_ne (w := W) (b := b) (o := off + i * 6) (o' := off + i * 6 + 5) (v := v) (by omega)
      have n1_0 := fun (W : World) (v : Value) => cell_setCell_ne (w := W) (b := b) (o := off + i * 6 + 1) (o' := off + i * 6) (v := v) (by omega)
      have n1_2 := fun (W : World) (v : Value) => cell_setCell_ne (w := W) (b := b) (o := off + i * 6 + 1) (o' := off + i * 6 + 2) (v := v) (by omega)
      have n1_3 := fun (W : World) (v : Value) => cell_setCell_ne (w := W) (b := b) (o := off + i * 6 + 1) (o' := off + i * 6 + 3) (v := v) (by omega)
      have n1_4 := fun (W : World) (v : Value) => cell_setCell_ne (w := W) (b := b) (o := off + i * 6 + 1) (o' := off + i * 6 + 4) (v := v) (by omega)
      have n1_5 := fun (W : World) (v : Value) => cell_setCell_ne (w := W) (b := b) (o := off + i * 6 + 1) (o' := off + i * 6 + 5) (v := v) (by omega)
      have n3_0 := fun (W : World) (v : Value) => cell_setCell_ne (w := W) (b := b) (o := off + i * 6 + 3) (o' := off + i * 6) (v := v) (by omega)
      have n3_1 := fun (W : World) (v : Value) => cell_setCell_ne (w := W) (b := b) (o := off + i * 6 + 3) (o' := off + i * 6 + 1) (v := v) (by omega)
      have n3_2 := fun (W : World) (v : Value) => cell_setCell_ne (w := W) (b := b) (o := off + i * 6 + 3) (o' := off + i * 6 + 2) (v := v) (by omega)
      have n3_4 := fun (W : World) (v : Value) => cell_setCell_ne (w := W) (b := b) (o := off + i * 6 + 3) (o' := off + i * 6 + 4) (v := v) (by omega)
      have n3_5 := fun (W : World) (v : Value) => cell_setCell_ne (w := W) (b := b) (o := off + i * 6 + 3) (o' := off + i * 6 + 5) (v := v) (by omega)
      have fz := fun (W : World) (o o' : Nat) (v : Value) => (frozen_setCell' : (W.setCell ⟨b, o, none⟩ v).frozen? ⟨b, o', none⟩ = W.frozen? ⟨b, o', none⟩)
      have Hq0 := Lib.hid (mtx_size (m) (by omega))
      have Hq1 := Lib.hid (mtx_size (m + 1) (by omega))
      have N0 : (fq2 ++ (fq4 ++ (fq5))).Nodup := by simpa only [List.nil_append, List.append_nil] using hnq
      have M0 : b ∉ fq2 ++ (fq4 ++ (fq5)) := by simpa only [List.nil_append, List.append_nil] using hbn
      obtain ⟨uq0, N1, R0⟩ := nodup_app N0
      obtain ⟨uq1, N2, R1⟩ := nodup_app N1
      have uq2 := uq0
      have dq2 : b ∉ fq2 := fun h => M0 (by simp [h])
      have uq4 := uq1
      have dq4 : b ∉ fq4 := fun h => M0 (by simp [h])
      have uq5 := N2
      have dq5 : b ∉ fq5 := fun h => M0 (by simp [h])
      have aq2_q4 : ∀ c ∈ fq2, c ∉ fq4 := fun c h1 h2 => R0 c h1 (by simp [h2])
      have aq4_q2 : ∀ c ∈ fq4, c ∉ fq2 := fun c h1 h2 => R0 c h2 (by simp [h1])
      have aq2_q5 : ∀ c ∈ fq2, c ∉ fq5 := fun c h1 h2 => R0 c h1 (by simp [h2])
      have aq5_q2 : ∀ c ∈ fq5, c ∉ fq2 := fun c h1 h2 => R0 c h2 (by simp [h1])
      have aq4_q5 : ∀ c ∈ fq4, c ∉ fq5 := fun c h1 h2 => R1 c h1 (by simp [h2])
      have aq5_q4 : ∀ c ∈ fq5, c ∉ fq4 := fun c h1 h2 => R1 c h2 (by simp [h1])
      have Sq2 := Lib.hid hq2
      obtain ⟨aaq2, ccq2, rfl, -, -, -⟩ := hq2.open
      have Sq4 := Lib.hid hq4
      obtain ⟨aaq4, ccq4, rfl, -, -, -⟩ := hq4.open
      have Sq5 := Lib.hid hq5
      obtain ⟨aaq5, ccq5, rfl, -, -, -⟩ := hq5.open
      have Haq2_q4 := Lib.hid aq2_q4
      have Haq2_q5 := Lib.hid aq2_q5
      have Haq4_q2 := Lib.hid aq4_q2
      have Haq4_q5 := Lib.hid aq4_q5
      have Haq5_q2 := Lib.hid aq5_q2
      have Haq5_q4 := Lib.hid aq5_q4
      have Hdq2 := Lib.hid dq2
      have Hdq4 := Lib.hid dq4
      have Hdq5 := Lib.hid dq5
      have Huq2 := Lib.hid uq2
      have Huq4 := Lib.hid uq4
      have Huq5 := Lib.hid uq5
      clear aq2_q4 aq2_q5 aq4_q2 aq4_q5 aq5_q2 aq5_q4 dq2 dq4 dq5 uq2 uq4 uq5 M0 N0 N1 N2 uq0 R0 uq1 R1 hq2 hq4 hq5
      clear hc hz hput bd2 g3 em hy hr hcs hq0 hq1
      have Hbn := Lib.hid hbn
      have Hnq := Lib.hid hnq
      have Hsub := Lib.hid hsub
      clear hbn hnq hsub
      go_wp2_with fail
      refine (markText_any (m) _ (by omega) (by omega)).mono ?_
      rintro e w0 ⟨rfl, x0, rfl⟩
      go_wp2_with fail
      refine (markText_any (m + 1) _ (by omega) (by omega)).mono ?_
      rintro e w1 ⟨rfl, x1, rfl⟩
      go_wp2_with fail
      refine (markStringS_any fq2 _ q2 (m + 1 + 1) _ ((SlR.wr Sq2.out (fp := [b]) (by repeat (first | with_reducible refine Wr.setCell ?_ (by simp) _ | with_reducible refine Wr.gr ?_ (Gr.ext (Gr.refl _) _) | exact Wr.refl _ _)) (by have := Hdq2.out; intro c hc hcb; simp at hcb; subst hcb; exact this hc))) Huq2.out (by omega) (by show (mStringS (m + 1 + 1) q2).2 ≤ _; omega)).mono ?_
      rintro e y2 ⟨rfl, t2, r2⟩
      have T2 := Lib.hid t2
      have R2 := Lib.hid r2
      clear t2 r2
      have F2 := Lib.hid (Foc.inner (b := b) (lo := off + i * Rd.n (GRule d)) (n := Rd.n (GRule d)) (fq := ([] ++ ([] ++ (fq2 ++ ([] ++ (fq4 ++ fq5)))))) (w := wr) (by repeat (first | with_reducible refine Foc.set ?_ (by simp [Rd.n] <;> omega) (by simp [Rd.n] <;> omega) _ | with_reducible refine Foc.gr ?_ bl (Gr.ext (Gr.refl _) _) | exact Foc.refl _ _ _ _ _)) bl R2.out (by intro c hc; simp [hc]) Hdq2.out)
      have Sq2x2 := T2
      have Sq4x2 := Lib.hid (SlR.wr (SlR.wr Sq4.out (fp := [b]) (by repeat (first | with_reducible refine Wr.setCell ?_ (by simp) _ | with_reducible refine Wr.gr ?_ (Gr.ext (Gr.refl _) _) | exact Wr.refl _ _)) (by have := Hdq4.out; intro c hc hcb; simp at hcb; subst hcb; exact this hc)) R2.out Haq4_q2.out)
      have Sq5x2 := Lib.hid (SlR.wr (SlR.wr Sq5.out (fp := [b]) (by repeat (first | with_reducible refine Wr.setCell ?_ (by simp) _ | with_reducible refine Wr.gr ?_ (Gr.ext (Gr.refl _) _) | exact Wr.refl _ _)) (by have := Hdq5.out; intro c hc hcb; simp at hcb; subst hcb; exact this hc)) R2.out Haq5_q2.out)
      have e2 := R2.out.block b (Nat.lt_of_lt_of_le bl (Foc.wr (b := b) (lo := off + i * Rd.n (GRule d)) (n := Rd.n (GRule d)) (fq := ([] ++ ([] ++ (fq2 ++ ([] ++ (fq4 ++ fq5)))))) (w := wr) (by repeat (first | with_reducible refine Foc.set ?_ (by simp [Rd.n] <;> omega) (by simp [Rd.n] <;> omega) _ | with_reducible refine Foc.gr ?_ bl (Gr.ext (Gr.refl _) _) | exact Foc.refl _ _ _ _ _))).size) Hdq2.out
      have c2 := fun (o : Nat) => World.cell?_of_block (a := ⟨b, o, none⟩) e2
      have z0x2 : y2.cell? ⟨b, off + i * 6, none⟩ = some (.string (mtx (m))) := (c2 _).trans (by go_simp)
      have z1x2 : y2.cell? ⟨b, off + i * 6 + 1, none⟩ = some (.string (mtx (m + 1))) := (c2 _).trans (by go_simp)
      have z2x2 : y2.cell? ⟨b, off + i * 6 + 2, none⟩ = some (.slice aaq2 q2.length ccq2) := (c2 _).trans (by go_simp)
      have z3x2 : y2.cell? ⟨b, off + i * 6 + 3, none⟩ = some (.bool q3) := (c2 _).trans (by go_simp)
      have z4x2 : y2.cell? ⟨b, off + i * 6 + 4, none⟩ = some (.slice aaq4 q4.length ccq4) := (c2 _).trans (by go_simp)
      have z5x2 : y2.cell? ⟨b, off + i * 6 + 5, none⟩ = some (.slice aaq5 q5.length ccq5) := (c2 _).trans (by go_simp)
      have bl2 := blk z0x2
      have v2 := fun (o : Nat) => World.frozen?_of_block (a := ⟨b, o, none⟩) e2
      have s2 := R2.out.size
      clear e2 c2 z0 z1 z2 z3 z4 z5
      go_wp2_with fail
      refine (markEquationS_any fq4 _ q4 ((mStringS (m + 1 + 1) q2).2 + 1) _ ((SlR.wr Sq4x2.out (fp := [b]) (by repeat (first | with_reducible refine Wr.setCell ?_ (by simp) _ | with_reducible refine Wr.gr ?_ (Gr.ext (Gr.refl _) _) | exact Wr.refl _ _)) (by have := Hdq4.out; intro c hc hcb; simp at hcb; subst hcb; exact this hc))) Huq4.out (by omega) (by show (mEquationS ((mStringS (m + 1 + 1) q2).2 + 1) q4).2 ≤ _; omega)).mono ?_
      rintro e y4 ⟨rfl, t4, r4⟩
      have T4 := Lib.hid t4
      have R4 := Lib.hid r4
      clear t4 r4
      have F4 := Lib.hid (Foc.inner (b := b) (lo := off + i * Rd.n (GRule d)) (n := Rd.n (GRule d)) (fq := ([] ++ ([] ++ (fq2 ++ ([] ++ (fq4 ++ fq5)))))) (w := wr) (by repeat (first | with_reducible refine Foc.set ?_ (by simp [Rd.n] <;> omega) (by simp [Rd.n] <;> omega) _ | with_reducible refine Foc.gr ?_ bl (Gr.ext (Gr.refl _) _) | exact F2.out)) bl R4.out (by intro c hc; simp [hc]) Hdq4.out)
      have Sq2x4 := Lib.hid (SlR.wr (SlR.wr Sq2x2.out (fp := [b]) (by repeat (first | with_reducible refine Wr.setCell ?_ (by simp) _ | with_reducible refine Wr.gr ?_ (Gr.ext (Gr.refl _) _) | exact Wr.refl _ _)) (by have := Hdq2.out; intro c hc hcb; simp at hcb; subst hcb; exact this hc)) R4.out Haq2_q4.out)
      have Sq4x4 := T4
      have Sq5x4 := Lib.hid (SlR.wr (SlR.wr Sq5x2.out (fp := [b]) (by repeat (first | with_reducible refine Wr.setCell ?_ (by simp) _ | with_reducible refine Wr.gr ?_ (Gr.ext (Gr.refl _) _) | exact Wr.refl _ _)) (by have := Hdq5.out; intro c hc hcb; simp at hcb; subst hcb; exact this hc)) R4.out Haq5_q4.out)
      have e4 := R4.out.block b (Nat.lt_of_lt_of_le bl (Foc.wr (b := b) (lo := off + i * Rd.n (GRule d)) (n := Rd.n (GRule d)) (fq := ([] ++ ([] ++ (fq2 ++ ([] ++ (fq4 ++ fq5)))))) (w := wr) (by repeat (first | with_reducible refine Foc.set ?_ (by simp [Rd.n] <;> omega) (by simp [Rd.n] <;> omega) _ | with_reducible refine Foc.gr ?_ bl (Gr.ext (Gr.refl _) _) | exact F2.out))).size) Hdq4.out
      have c4 := fun (o : Nat) => World.cell?_of_block (a := ⟨b, o, none⟩) e4
      have z0x4 : y4.cell? ⟨b, off + i * 6, none⟩ = some (.string (mtx (m))) := (c4 _).trans (by go_simp)
      have z1x4 : y4.cell? ⟨b, off + i * 6 + 1, none⟩ = some (.string (mtx (m + 1))) := (c4 _).trans (by go_simp)
      have z2x4 : y4.cell? ⟨b, off + i * 6 + 2, none⟩ = some (.slice aaq2 q2.length ccq2) := (c4 _).trans (by go_simp)
      have z3x4 : y4.cell? ⟨b, off + i * 6 + 3, none⟩ = some (.bool (mbo ((mStringS (m + 1 + 1) q2).2))) := (c4 _).trans (by go_simp)
      have z4x4 : y4.cell? ⟨b, off + i * 6 + 4, none⟩ = some (.slice aaq4 q4.length ccq4) := (c4 _).trans (by go_simp)
      have z5x4 : y4.cell? ⟨b, off + i * 6 + 5, none⟩ = some (.slice aaq5 q5.length ccq5) := (c4 _).trans (by go_simp)
      have s4 := R4.out.size
      clear e4 c4 z0x2 z1x2 z2x2 z3x2 z4x2 z5x2
      clear fz n0_1 n0_2 n0_3 n0_4 n0_5 n1_0 n1_2 n1_3 n1_4 n1_5 n3_0 n3_1 n3_2 n3_4 n3_5 f0 f1 f3
      go_wp2_with fail
      refine (markContributionS_any fq5 _ q5 ((mEquationS ((mStringS (m + 1 + 1) q2).2 + 1) q4).2) _ ((SlR.wr Sq5x4.out (fp := [b]) (by repeat (first | with_reducible refine Wr.setCell ?_ (by simp) _ | with_reducible refine Wr.gr ?_ (Gr.ext (Gr.refl _) _) | exact Wr.refl _ _)) (by have := Hdq5.out; intro c hc hcb; simp at hcb; subst hcb; exact this hc))) Huq5.out (by omega) (by show (mContributionS ((mEquationS ((mStringS (m + 1 + 1) q2).2 + 1) q4).2) q5).2 ≤ _; omega)).mono ?_
      rintro e y5 ⟨rfl, t5, r5⟩
      have T5 := Lib.hid t5
      have R5 := Lib.hid r5
      clear t5 r5
      have F5 := Lib.hid (Foc.inner (b := b) (lo := off + i * Rd.n (GRule d)) (n := Rd.n (GRule d)) (fq := ([] ++ ([] ++ (fq2 ++ ([] ++ (fq4 ++ fq5)))))) (w := wr) (by repeat (first | with_reducible refine Foc.set ?_ (by simp [Rd.n] <;> omega) (by simp [Rd.n] <;> omega) _ | with_reducible refine Foc.gr ?_ bl (Gr.ext (Gr.refl _) _) | exact F4.out)) bl R5.out (by intro c hc; simp [hc]) Hdq5.out)
      have Sq2x5 := Lib.hid (SlR.wr (SlR.wr Sq2x4.out (fp := [b]) (by repeat (first | with_reducible refine Wr.setCell ?_ (by simp) _ | with_reducible refine Wr.gr ?_ (Gr.ext (Gr.refl _) _) | exact Wr.refl _ _)) (by have := Hdq2.out; intro c hc hcb; simp at hcb; subst hcb; exact this hc)) R5.out Haq2_q5.out)
      have Sq4x5 := Lib.hid (SlR.wr (SlR.wr Sq4x4.out (fp := [b]) (by repeat (first | with_reducible refine Wr.setCell ?_ (by simp) _ | with_reducible refine Wr.gr ?_ (Gr.ext (Gr.refl _) _) | exact Wr.refl _ _)) (by have := Hdq4.out; intro c hc hcb; simp at hcb; subst hcb; exact this hc)) R5.out Haq4_q5.out)
      have Sq5x5 := T5
      have e5 := R5.out.block b (Nat.lt_of_lt_of_le bl (Foc.wr (b := b) (lo := off + i * Rd.n (GRule d)) (n := Rd.n (GRule d)) (fq := ([] ++ ([] ++ (fq2 ++ ([] ++ (fq4 ++ fq5)))))) (w := wr) (by repeat (first | with_reducible refine Foc.set ?_ (by simp [Rd.n] <;> omega) (by simp [Rd.n] <;> omega) _ | with_reducible refine Foc.gr ?_ bl (Gr.ext (Gr.refl _) _) | exact F4.out))).size) Hdq5.out
      have c5 := fun (o : Nat) => World.cell?_of_block (a := ⟨b, o, none⟩) e5
      have z0x5 : y5.cell? ⟨b, off + i * 6, none⟩ = some (.string (mtx (m))) := (c5 _).trans z0x4
      have z1x5 : y5.cell? ⟨b, off + i * 6 + 1, none⟩ = some (.string (mtx (m + 1))) := (c5 _).trans z1x4
      have z2x5 : y5.cell? ⟨b, off + i * 6 + 2, none⟩ = some (.slice aaq2 q2.length ccq2) := (c5 _).trans z2x4
      have z3x5 : y5.cell? ⟨b, off + i * 6 + 3, none⟩ = some (.bool (mbo ((mStringS (m + 1 + 1) q2).2))) := (c5 _).trans z3x4
      have z4x5 : y5.cell? ⟨b, off + i * 6 + 4, none⟩ = some (.slice aaq4 q4.length ccq4) := (c5 _).trans z4x4
      have z5x5 : y5.cell? ⟨b, off + i * 6 + 5, none⟩ = some (.slice aaq5 q5.length ccq5) := (c5 _).trans z5x4
      have s5 := R5.out.size
      clear e5 c5 z0x4 z1x4 z2x4 z3x4 z4x4 z5x4
      go_wp2_with fail
      refine ⟨⟨i + 1, (mContributionS ((mEquationS ((mStringS (m + 1 + 1) q2).2 + 1) q4).2) q5).2, by omega, Lib.hid ?_, ?_, ?_, by go_num, rfl⟩, by simp [intOf]; omega⟩
      · rw [markK_succ mRule k xs hlt, ← hm.out, ← HY.out]; rfl
      · rw [markT_succ mRule k xs hlt, ← hm.out, ← HY.out]
        refine HP.out _ [.string (mtx (m)), .string (mtx (m + 1)), .slice aaq2 q2.length ccq2, .bool (mbo ((mStringS (m + 1 + 1) q2).2)), .slice aaq4 q4.length ccq4, .slice aaq5 q5.length ccq5] (mRule m (q0, q1, q2, q3, q4, q5)).1 (by repeat (first | with_reducible refine Foc.set ?_ (by simp [Rd.n] <;> omega) (by simp [Rd.n] <;> omega) _ | with_reducible refine Foc.gr ?_ bl (Gr.ext (Gr.refl _) _) | exact F5.out)) (fun j v hj => ?_) (rdRule_mk (mtx (m)) (mtx (m + 1)) ((mStringS (m + 1 + 1) q2).1) (mbo ((mStringS (m + 1 + 1) q2).2)) ((mEquationS ((mStringS (m + 1 + 1) q2).2 + 1) q4).1) ((mContributionS ((mEquationS ((mStringS (m + 1 + 1) q2).2 + 1) q4).2) q5).1) Hq0.out Hq1.out (SlR.wr Sq2x5.out (fp := [b]) (by repeat (first | with_reducible refine Wr.setCell ?_ (by simp) _ | with_reducible refine Wr.gr ?_ (Gr.ext (Gr.refl _) _) | exact Wr.refl _ _)) (by have := Hdq2.out; intro c hc hcb; simp at hcb; subst hcb; exact this hc)) (SlR.wr Sq4x5.out (fp := [b]) (by repeat (first | with_reducible refine Wr.setCell ?_ (by simp) _ | with_reducible refine Wr.gr ?_ (Gr.ext (Gr.refl _) _) | exact Wr.refl _ _)) (by have := Hdq4.out; intro c hc hcb; simp at hcb; subst hcb; exact this hc)) (SlR.wr Sq5x5.out (fp := [b]) (by repeat (first | with_reducible refine Wr.setCell ?_ (by simp) _ | with_reducible refine Wr.gr ?_ (Gr.ext (Gr.refl _) _) | exact Wr.refl _ _)) (by have := Hdq5.out; intro c hc hcb; simp at hcb; subst hcb; exact this hc)))
        have en : off + i * Rd.n (GRule d) = off + i * 6 := rfl
        rw [en]
        match j, hj with
        | 0, hj => obtain rfl := Option.some.inj hj; exact z0x5
        | 1, hj => obtain rfl := Option.some.inj hj; exact z1x5
        | 2, hj => obtain rfl := Option.some.inj hj; exact z2x5
        | 3, hj => obtain rfl := Option.some.inj hj; exact z3x5
        | 4, hj => obtain rfl := Option.some.inj hj; exact z4x5
        | 5, hj => obtain rfl := Option.some.inj hj; exact z5x5
      · exact HW.out.trans (Wr.sub (Foc.wr (b := b) (lo := off + i * Rd.n (GRule d)) (n := Rd.n (GRule d)) (fq := ([] ++ ([] ++ (fq2 ++ ([] ++ (fq4 ++ fq5)))))) (by repeat (first | with_reducible refine Foc.set ?_ (by simp [Rd.n] <;> omega) (by simp [Rd.n] <;> omega) _ | with_reducible refine Foc.gr ?_ bl (Gr.ext (Gr.refl _) _) | exact F5.out))) (fun c hc => by
          rcases List.mem_cons.1 hc with rfl | hc
          · exact hbm
          · exact Hsub.out c hc))
    · have hk2 : i = xs.length := by omega
      subst hk2
      have hs2 := HS.out
      rw [markT_all] at hs2
      have hm2 := hm.out
      rw [List.take_length] at hm2
      have HS2 := Lib.hid hs2
      have HM2 := Lib.hid hm2
      clear hs2 hm2 HS hm
      go_wp2
      go_ret
      exact ⟨ret_int HM2.out, HS2.out, HW.out⟩

/-- The marks of a value. -/
def vGrammar (k : Int) : (GGrammar d) → (GGrammar d) × Int
  | (q0, q1) => (((mSymbolS (k) q0).1, (mRuleS ((mSymbolS (k) q0).2) q1).1), (mRuleS ((mSymbolS (k) q0).2) q1).2)
theorem vGrammar_bd (k : Int) (x : (GGrammar d)) : k ≤ (vGrammar k x).2 ∧ (vGrammar k x).2 ≤ k + 16 * (1 + wtGrammar x) := by
  obtain ⟨q0, q1⟩ := x
  have bq0 := mSymbolS_bd (k) q0
  have bq1 := mRuleS_bd ((mSymbolS (k) q0).2) q1
  have hw : wtGrammar (q0, q1) = (wtSymbolS q0) + (wtRuleS q1) := rfl
  simp only [vGrammar] at *
  omega

set_option maxHeartbeats 1000000 in
theorem markGrammar_any (fp : List Nat) (cs : Array Value) (x : (GGrammar d)) (k : Int) (w : World) (hx : Rd.rd fp w cs.toList x) (hnd : fp.Nodup) (h0 : 0 < k) (h1 : (vGrammar k x).2 ≤ 4398046511104) :
    Calls Tryz.prog 17 #[.agg cs, .int .i64 k] w fun e w' => e = .returned (.int .i64 (vGrammar k x).2) ∧ Rd.rd fp w' cs.toList (vGrammar k x).1 ∧ Wr fp w w' := by
  have hlt := Rd.lt hx
  obtain ⟨q0, q1⟩ := x
  obtain ⟨vq0, fq0, vq1, fq1, rfl, hfq, hq0, hq1⟩ := rdGrammar_inv q0 q1 hx
  rw [hfq] at hlt hnd hx ⊢
  clear hfq
  have m1 : (mRuleS ((mSymbolS (k) q0).2) q1).2 ≤ 4398046511104 := h1
  have N0 : (fq0 ++ (fq1)).Nodup := by simpa only [List.nil_append, List.append_nil] using hnd
  have L0 : ∀ c ∈ (fq0 ++ (fq1)), c < w.heap.size := by simpa only [List.nil_append, List.append_nil] using hlt
  obtain ⟨uq0, N1, R0⟩ := nodup_app N0
  have uq0 := uq0
  have Hlq0 := Lib.hid (fun c (h : c ∈ fq0) => L0 c (by simp [h]))
  have uq1 := N1
  have Hlq1 := Lib.hid (fun c (h : c ∈ fq1) => L0 c (by simp [h]))
  have Haq0_q1 := Lib.hid (fun c (h1 : c ∈ fq0) (h2 : c ∈ fq1) => R0 c h1 (by simp [h2]))
  have Haq1_q0 := Lib.hid (fun c (h1 : c ∈ fq1) (h2 : c ∈ fq0) => R0 c h2 (by simp [h1]))
  have Huq0 := Lib.hid uq0
  have Huq1 := Lib.hid uq1
  have bq0 := mSymbolS_mono (k) q0
  have bq1 := mRuleS_mono ((mSymbolS (k) q0).2) q1
  have Sq0 := Lib.hid hq0
  obtain ⟨aq0, cq0, rfl, -, -, -⟩ := hq0.open
  have Sq1 := Lib.hid hq1
  obtain ⟨aq1, cq1, rfl, -, -, -⟩ := hq1.open
  clear hx hlt h1 hnd L0  hq0 hq1 uq0 uq1 R0 N0
  go_enter Tryz.func17, Tryz.ntmps17
  go_wp2_with fail
  refine (markSymbolS_any fq0 _ q0 (k) _ (Sq0.out.gr (by repeat (first | exact Gr.refl _ | apply Gr.ext | apply Gr.alloc | apply Gr.drew))) Huq0.out (by omega) (by show (mSymbolS (k) q0).2 ≤ _; omega)).mono ?_
  rintro e y0 ⟨rfl, t0, r0⟩
  have T0 := Lib.hid t0
  have R0 := Lib.hid r0
  clear t0 r0
  have W0 := Lib.hid ((Gr.toWr (by exact (by repeat (first | exact Gr.refl _ | apply Gr.ext | apply Gr.alloc | apply Gr.drew)) : Gr w (w.alloc (.cells #[.slice aq0 q0.length cq0, .slice aq1 q1.length cq1] 43))) (fq0 ++ (fq1))).trans (R0.out.sub (fun c hc => by simp [hc])))
  have Sq1x0 := Lib.hid (SlR.wr (Sq1.out.gr (by repeat (first | exact Gr.refl _ | apply Gr.ext | apply Gr.alloc | apply Gr.drew))) R0.out Haq1_q0.out)
  have e0 := R0.out.block w.heap.size (by simp) (fun h => Nat.lt_irrefl _ (Hlq0.out _ h))
  have c0 := fun (o : Nat) => World.cell?_of_block (a := ⟨w.heap.size, o, none⟩) e0
  have z1x0 : y0.cell? ⟨w.heap.size, 1, none⟩ = some (.slice aq1 q1.length cq1) := (c0 _).trans (box_cell rfl rfl)
  have s0 := blk z1x0
  clear e0 c0
  go_wp2_with fail
  refine (markRuleS_any fq1 _ q1 ((mSymbolS (k) q0).2) _ Sq1x0.out Huq1.out (by omega) (by show (mRuleS ((mSymbolS (k) q0).2) q1).2 ≤ _; omega)).mono ?_
  rintro e y1 ⟨rfl, t1, r1⟩
  have T1 := Lib.hid t1
  have R1 := Lib.hid r1
  clear t1 r1
  have W1 := Lib.hid (W0.out.trans (R1.out.sub (fun c hc => by simp [hc])))
  have Sq0x1 := Lib.hid (SlR.wr T0.out R1.out Haq0_q1.out)
  go_wp2_with fail
  go_ret
  refine ⟨rfl, ?_, W1.out.sub (fun c hc => by simpa using hc)⟩
  have hl := rdGrammar_mk ((mSymbolS (k) q0).1) ((mRuleS ((mSymbolS (k) q0).2) q1).1) Sq0x1.out T1.out
  exact hl

end Go.Proofs.YtbfmeiooeaaibaaGreat
