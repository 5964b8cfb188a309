/- An expression in new memory: the program's; the expression of an occurrence. All cells of a block of one's own written, one after the other. Made by mk_put.py. Definitions of instances, plainly. No condition. -/
import Derived.Test.YtbfmeiooeaaibaaGreatCopy4
import Derived.Test.YtbfmeiooeaaibaaGreatTreeM
import Derived.Test.YtbfmeiooeaaibaaGreatOwnBox
import Derived.Test.YtbfmeiooeaaibaaGreatXAttr
namespace Go.Proofs.YtbfmeiooeaaibaaGreat
open Go.RowKit
variable {d : Nat}
set_option linter.unusedVariables false

/-- The expression of an occurrence. -/
def eqnOf (es : List (GEquation d)) (o : GOccurrence) : Option (GExpr d) := (lookQ es o).map (·.2)
def zeroX : GExpr d := (0, 0, 0, 0, ByteArray.empty, ByteArray.empty, [])
theorem zeroX_rd (w : World) : Rd.rd (α := GExpr d) ([] ++ ([] ++ ([] ++ ([] ++ ([] ++ ([] ++ [])))))) w [.int .i64 0, .int .i64 0, .int .i64 0, .int .i64 0, .string ByteArray.empty, .string ByteArray.empty, .slice none 0 0] zeroX := rdExpr_mk _ _ _ _ _ _ _ (by decide) (by decide) (by decide) (by decide) (by decide) (by decide) (SlR.nil w)

set_option maxRecDepth 10000 in
set_option maxHeartbeats 4000000 in
theorem copyExpr_of (hE : ∀ (fp : List Nat) (cs : Array Value) (x : GE d) (w : World) (hx : Rd.rd fp w cs.toList x) (hl : wtE d x ≤ 1048576), Calls Tryz.prog 128 #[.agg cs] w (Made w x))
    (fp : List Nat) (cs : Array Value) (x : GExpr d) (w : World) (hx : Rd.rd fp w cs.toList x) (hl : wtExpr x ≤ 1048576) :
    Calls Tryz.prog 128 #[.agg cs] w (Made w x) := by
  obtain ⟨q0, q1, q2, q3, q4, q5, q6⟩ := x
  obtain ⟨vq6, fq6, rfl, -, hq0, hq1, hq2, hq3, hq4, hq5, hq6⟩ := rdExpr_inv q0 q1 q2 q3 q4 q5 q6 hx
  obtain ⟨aq6, kq6, rfl, oq61, oq62, oq63⟩ := hq6.open
  have hw6 : wtExprS q6 ≤ 1048576 := by
    have h : q4.size + q5.size + wtExprS q6 ≤ 1048576 := hl
    omega
  have hll : q6.length ≤ 1048576 := Nat.le_trans (wtL_len (wtE _) q6) hw6
  have HW := Lib.hid hw6
  have H0 := Lib.hid (And.intro hq0 (And.intro hq1 (And.intro hq2 (And.intro hq3 (And.intro hq4 hq5)))))
  obtain ⟨i0, hi, hz0, hz1, hz2⟩ := info_parts Tryz.infoExprC
  have HZ := Lib.hid (And.intro hi (And.intro hz0 (And.intro hz1 hz2)))
  clear hi hz0 hz1 hz2 hx hl hw6 hq0 hq1 hq2 hq3 hq4 hq5
  go_enter Tryz.func128, Tryz.ntmps128
  go_wp2_with fail
  generalize hB : ((w.alloc (.cells #[.int .i64 q0, .int .i64 q1, .int .i64 q2, .int .i64 q3, .string q4, .string q5, .slice aq6 q6.length kq6] 87)).alloc (.cells #[.int .i64 0, .int .i64 0, .int .i64 0, .int .i64 0, .string ⟨#[]⟩, .string ⟨#[]⟩, .slice none 0 0] 87)) = B
  have gB : Gr w B := by rw [← hB]; exact (by repeat (first | exact Gr.refl _ | apply Gr.ext | apply Gr.alloc | apply Gr.drew))
  have bB0 : ∀ w' : World, Gr B w' → w'.cell? ⟨w.heap.size, 0, none⟩ = some (.int .i64 q0) := fun w' hg => hg.keep (by rw [← hB]; repeat (first | ((with_reducible refine box_cell ?_ ?_) <;> first | omega | (simp; done) | (simp; omega) | rfl) | (with_reducible refine Gr.keep (Gr.alloc (Gr.refl _) _) ?_) | (with_reducible refine Gr.keep (Gr.ext (Gr.refl _) _) ?_) | (with_reducible refine Gr.keep (Gr.drew (Gr.refl _)) ?_)))
  have bB1 : ∀ w' : World, Gr B w' → w'.cell? ⟨w.heap.size, 1, none⟩ = some (.int .i64 q1) := fun w' hg => hg.keep (by rw [← hB]; repeat (first | ((with_reducible refine box_cell ?_ ?_) <;> first | omega | (simp; done) | (simp; omega) | rfl) | (with_reducible refine Gr.keep (Gr.alloc (Gr.refl _) _) ?_) | (with_reducible refine Gr.keep (Gr.ext (Gr.refl _) _) ?_) | (with_reducible refine Gr.keep (Gr.drew (Gr.refl _)) ?_)))
  have bB2 : ∀ w' : World, Gr B w' → w'.cell? ⟨w.heap.size, 2, none⟩ = some (.int .i64 q2) := fun w' hg => hg.keep (by rw [← hB]; repeat (first | ((with_reducible refine box_cell ?_ ?_) <;> first | omega | (simp; done) | (simp; omega) | rfl) | (with_reducible refine Gr.keep (Gr.alloc (Gr.refl _) _) ?_) | (with_reducible refine Gr.keep (Gr.ext (Gr.refl _) _) ?_) | (with_reducible refine Gr.keep (Gr.drew (Gr.refl _)) ?_)))
  have bB3 : ∀ w' : World, Gr B w' → w'.cell? ⟨w.heap.size, 3, none⟩ = some (.int .i64 q3) := fun w' hg => hg.keep (by rw [← hB]; repeat (first | ((with_reducible refine box_cell ?_ ?_) <;> first | omega | (simp; done) | (simp; omega) | rfl) | (with_reducible refine Gr.keep (Gr.alloc (Gr.refl _) _) ?_) | (with_reducible refine Gr.keep (Gr.ext (Gr.refl _) _) ?_) | (with_reducible refine Gr.keep (Gr.drew (Gr.refl _)) ?_)))
  have bB4 : ∀ w' : World, Gr B w' → w'.cell? ⟨w.heap.size, 4, none⟩ = some (.string q4) := fun w' hg => hg.keep (by rw [← hB]; repeat (first | ((with_reducible refine box_cell ?_ ?_) <;> first | omega | (simp; done) | (simp; omega) | rfl) | (with_reducible refine Gr.keep (Gr.alloc (Gr.refl _) _) ?_) | (with_reducible refine Gr.keep (Gr.ext (Gr.refl _) _) ?_) | (with_reducible refine Gr.keep (Gr.drew (Gr.refl _)) ?_)))
  have bB5 : ∀ w' : World, Gr B w' → w'.cell? ⟨w.heap.size, 5, none⟩ = some (.string q5) := fun w' hg => hg.keep (by rw [← hB]; repeat (first | ((with_reducible refine box_cell ?_ ?_) <;> first | omega | (simp; done) | (simp; omega) | rfl) | (with_reducible refine Gr.keep (Gr.alloc (Gr.refl _) _) ?_) | (with_reducible refine Gr.keep (Gr.ext (Gr.refl _) _) ?_) | (with_reducible refine Gr.keep (Gr.drew (Gr.refl _)) ?_)))
  have bB6 : ∀ w' : World, Gr B w' → w'.cell? ⟨w.heap.size, 6, none⟩ = some (.slice aq6 q6.length kq6) := fun w' hg => hg.keep (by rw [← hB]; repeat (first | ((with_reducible refine box_cell ?_ ?_) <;> first | omega | (simp; done) | (simp; omega) | rfl) | (with_reducible refine Gr.keep (Gr.alloc (Gr.refl _) _) ?_) | (with_reducible refine Gr.keep (Gr.ext (Gr.refl _) _) ?_) | (with_reducible refine Gr.keep (Gr.drew (Gr.refl _)) ?_)))
  have sB : B.heap.size = w.heap.size + 2 := by rw [← hB]; first | (simp; done) | (simp; omega)
  have EB := Lib.hid hB
  clear hB
  go_loopw [9, 3] (fun s9 s3 wr => ∃ (k : Nat) (fps : List (List Nat)), k ≤ q6.length ∧ Hid (Fresh B fps.flatten) ∧ Gr B wr ∧ OwnR B 87 wr s3 fps (q6.take k) ∧ s9 = .int .i64 k) (fun s9 _ _ => q6.length - (intOf s9).toNat)
  case atStart => exact ⟨0, [], by omega, Lib.hid (by simpa using Fresh.nil B), (by repeat (first | exact Gr.refl _ | apply Gr.ext | apply Gr.alloc | apply Gr.drew)), OwnR.nil B B 87, rfl⟩
  case round =>
    obtain ⟨k, fps, hk, HF, hg, hown, rfl⟩ := hrel
    rename World => W1
    have HG := Lib.hid hg
    have HO := Lib.hid hown
    obtain ⟨ra, rc, hform⟩ := hown.form
    have y6 := bB6 _ hg
    have hLl : (q6.take k).length = k := by simp; omega
    rw [hLl] at hform
    have HL := Lib.hid hLl
    have zx := blk y6
    have hgw := gB.trans hg
    have HGW := Lib.hid hgw
    subst hform
    clear hg hown hLl hgw
    by_cases hlt : k < q6.length
    · obtain ⟨d1, rfl⟩ : ∃ e, d = e + 1 := by
        cases d with
        | zero => exact PEmpty.elim (q6[k])
        | succ e => exact ⟨e, rfl⟩
      have hwk : wtE (d1 + 1) q6[k] ≤ 1048576 := Nat.le_trans (wtL_at (wtE _) q6 hlt) HW.out
      have HWK := Lib.hid hwk
      obtain ⟨b, off, rfl, hb⟩ := oq63 k hlt
      obtain ⟨csp, fep, hcp, hrp, -⟩ := hq6.at hlt
      obtain ⟨yp, hyp⟩ : ∃ y, y = q6[k] := ⟨_, rfl⟩
      rw [← hyp] at hrp
      have HYp := Lib.hid hyp
      have HRp := Lib.hid hrp
      obtain ⟨p0, p1, p2, p3, p4, p5, p6⟩ := yp
      obtain ⟨vp6, fp6, hcsp, -, hp0, hp1, hp2, hp3, hp4, hp5, hp6⟩ := rdExpr_inv (cs := csp.toArray) p0 p1 p2 p3 p4 p5 p6 (show Rd.rd (α := GExpr d1) fep w csp.toArray.toList _ from hrp)
      obtain rfl : csp = [.int .i64 p0, .int .i64 p1, .int .i64 p2, .int .i64 p3, .string p4, .string p5, vp6] := by have := congrArg Array.toList hcsp; simpa using this
      obtain ⟨ap6, kp6, rfl, -, -, -⟩ := hp6.open
      have z0 := HGW.out.keep (show w.cell? ⟨b, off + k * 7, none⟩ = some (.int .i64 p0) from hcp 0 _ rfl)
      have z1 := HGW.out.keep (show w.cell? ⟨b, off + k * 7 + 1, none⟩ = some (.int .i64 p1) from hcp 1 _ rfl)
      have z2 := HGW.out.keep (show w.cell? ⟨b, off + k * 7 + 2, none⟩ = some (.int .i64 p2) from hcp 2 _ rfl)
      have z3 := HGW.out.keep (show w.cell? ⟨b, off + k * 7 + 3, none⟩ = some (.int .i64 p3) from hcp 3 _ rfl)
      have z4 := HGW.out.keep (show w.cell? ⟨b, off + k * 7 + 4, none⟩ = some (.string p4) from hcp 4 _ rfl)
      have z5 := HGW.out.keep (show w.cell? ⟨b, off + k * 7 + 5, none⟩ = some (.string p5) from hcp 5 _ rfl)
      have z6 := HGW.out.keep (show w.cell? ⟨b, off + k * 7 + 6, none⟩ = some (.slice ap6 p6.length kp6) from hcp 6 _ rfl)
      have zb := blk z0
      clear hcsp hcp hrp hyp oq63 hp0 hp1 hp2 hp3 hp4 hp5 hp6 hwk
      go_wp2_with fail
      refine (hE _ _ q6[k] _ (Rd.gr (by rw [← HYp.out]; exact HRp.out) (HGW.out.trans (by repeat (first | exact Gr.refl _ | apply Gr.ext | apply Gr.alloc | apply Gr.drew)))) HWK.out).mono ?_
      rintro e w1 ⟨ds, fq, rfl, hs, hf, y, rfl⟩
      have HS := Lib.hid hs
      have HF1 := Lib.hid (hf.of_le (w := W1) (by simp))
      obtain ⟨r0, r1, r2, r3, r4, r5, ar6, lr6, kr6, rfl⟩ := rdExpr_shape (show Rd.rd (α := GExpr d1) fq _ ds.toList _ from hs)
      clear hs hf
      go_wp2_with (first | (at_builtin; refine wpList_append_R (α := GE (d1 + 1)) (w0 := B) (HG.out.trans (by repeat (first | exact Gr.refl _ | apply Gr.ext | apply Gr.alloc | apply Gr.drew))) rfl _ _ 85 rfl 87 i0 (.agg #[.int .i64 0, .int .i64 0, .int .i64 0, .int .i64 0, .string ByteArray.empty, .string ByteArray.empty, .slice none 0 0]) 88 Tryz.underlying85 HZ.out.1 HZ.out.2.1 HZ.out.2.2.1 HZ.out.2.2.2 rfl _ fps _ (by rfl) (HO.out.gr (by repeat (first | exact Gr.refl _ | apply Gr.ext | apply Gr.alloc | apply Gr.drew))) _ [fq] [q6[k]] (by rfl) (SrcR.one (by simp) (Rd.gr HS.out (by repeat (first | exact Gr.refl _ | apply Gr.ext | apply Gr.alloc | apply Gr.drew)))) (own_apart HO.out HF1.out) (by rw [HL.out]; unfold maxLen; simp; omega) (by rw [HL.out]; simp; omega) ?_; intro v3 w3 h1 h2 h3 h4; replace h1 := Lib.hid h1; replace h4 := Lib.hid h4; clear h2 h3))
      refine ⟨⟨k + 1, fps ++ [fq], by omega, Lib.hid (fresh_snoc HF.out (OwnR.lt HO.out) (HG.out.size) HF1.out), h4.out, ?_, by go_num⟩, by simp [intOf]; omega⟩
      have e : q6.take (k + 1) = q6.take k ++ [q6[k]] := List.take_succ_eq_append_getElem hlt
      rw [e]; exact h1.out
    · have hk2 : k = q6.length := by omega
      subst hk2
      obtain ⟨y, rfl⟩ := HG.out
      obtain ⟨fr, hs, hfr⟩ := HO.out.fresh (by rw [HL.out]; unfold reachLen; omega) HF.out
      rw [List.take_length] at hs
      have HS := Lib.hid hs
      have HFR := Lib.hid hfr
      clear hs hfr
      obtain rfl := EB.out
      obtain ⟨h0, h1, h2, h3, h4, h5⟩ := H0.out
      go_wp2_with fail
      exact bodyPost_ret (v := .agg #[.int .i64 q0, .int .i64 q1, .int .i64 q2, .int .i64 q3, .string q4, .string q5, .slice ra q6.length rc])
        (by simp [results, Tryz.results128, go_sem]) rfl ⟨_, _, rfl, rdExpr_mk q0 q1 q2 q3 q4 q5 q6 h0 h1 h2 h3 h4 h5 (SlR.moved HS.out HFR.out (by repeat (first | exact Gr.refl _ | apply Gr.ext | apply Gr.alloc | apply Gr.drew)) (by simp)), HFR.out.of_le (by simp <;> omega), (by repeat (first | exact Gr.refl _ | apply Gr.ext | apply Gr.alloc | apply Gr.drew))⟩

theorem copyExpr_all : (d : Nat) → ∀ (fp : List Nat) (cs : Array Value) (x : GE d) (w : World) (hx : Rd.rd fp w cs.toList x) (hl : wtE d x ≤ 1048576), Calls Tryz.prog 128 #[.agg cs] w (Made w x)
  | 0 => by intro fp cs x; exact PEmpty.elim x
  | d + 1 => copyExpr_of (copyExpr_all d)
theorem copyExpr_any (fp : List Nat) (cs : Array Value) (x : GExpr d) (w : World) (hx : Rd.rd fp w cs.toList x) (hl : wtExpr x ≤ 1048576) :
    Calls Tryz.prog 128 #[.agg cs] w (Made w x) := copyExpr_of (copyExpr_all d) fp cs x w hx hl

set_option maxRecDepth 10000 in
set_option maxHeartbeats 4000000 in
theorem implFindEq_any {fx : List Nat} {cx : Array Value} (x : (GRule d)) {fn : List Nat} {cn : Array Value} (n : GOccurrence) (w : World) (hx : Rd.rd fx w cx.toList x) (hn : Rd.rd fn w cn.toList n) (hl : wtRule x ≤ 1048576) :
    Calls Tryz.prog 96 #[.agg cx, .agg cn] w (Found [] w (eqnOf x.2.2.2.2.1 n) zeroX) := by
  have HX := Lib.hid hx
  obtain ⟨x0, x1, x2, x3, x4, x5⟩ := x
  obtain ⟨vx2, fx2, vx4, fx4, vx5, fx5, rfl, hfpx, hx0, hx1, hx2, hx4, hx5⟩ := rdRule_inv x0 x1 x2 x3 x4 x5 hx
  have FPx := Lib.hid hfpx
  clear hfpx
  obtain ⟨ax2, kx2, rfl, ox21, ox22, ox23⟩ := hx2.open
  obtain ⟨ax4, kx4, rfl, ox41, ox42, ox43⟩ := hx4.open
  obtain ⟨ax5, kx5, rfl, ox51, ox52, ox53⟩ := hx5.open
  clear hx
  have hws : wtEquationS x4 ≤ 1048576 := by
    have h : x0.size + x1.size + wtStringS x2 + wtEquationS x4 + wtContributionS x5 ≤ 1048576 := hl
    omega
  have HWT := Lib.hid hws
  clear hl hws
  have HN := Lib.hid hn
  obtain ⟨n0, n1⟩ := n
  obtain ⟨rfl, hfpn, hn0, hn1⟩ := rdOccurrence_inv n0 n1 hn
  have FPn := Lib.hid hfpn
  clear hfpn
  clear hn
  go_enter Tryz.func96, Tryz.ntmps96
  go_wp2_with fail
  generalize hB : ((w.alloc (.cells #[.string x0, .string x1, .slice ax2 x2.length kx2, .bool x3, .slice ax4 x4.length kx4, .slice ax5 x5.length kx5] 101)).alloc (.cells #[.int .i64 n0, .string n1] 154)).alloc (.cells #[.int .i64 0, .int .i64 0, .int .i64 0, .int .i64 0, .string ⟨#[]⟩, .string ⟨#[]⟩, .slice none 0 0] 87) = B
  have gB : Gr w B := by rw [← hB]; exact (by repeat (first | exact Gr.refl _ | apply Gr.ext | apply Gr.alloc | apply Gr.drew))
  have bB0 : ∀ w' : World, Gr B w' → w'.cell? ⟨w.heap.size, 0, none⟩ = some (.string x0) := fun w' hg => hg.keep (by rw [← hB]; repeat (first | ((with_reducible refine box_cell ?_ ?_) <;> first | omega | (simp; done) | (simp; omega) | rfl) | (with_reducible refine Gr.keep (Gr.alloc (Gr.refl _) _) ?_) | (with_reducible refine Gr.keep (Gr.ext (Gr.refl _) _) ?_) | (with_reducible refine Gr.keep (Gr.drew (Gr.refl _)) ?_)))
  have bB1 : ∀ w' : World, Gr B w' → w'.cell? ⟨w.heap.size, 1, none⟩ = some (.string x1) := fun w' hg => hg.keep (by rw [← hB]; repeat (first | ((with_reducible refine box_cell ?_ ?_) <;> first | omega | (simp; done) | (simp; omega) | rfl) | (with_reducible refine Gr.keep (Gr.alloc (Gr.refl _) _) ?_) | (with_reducible refine Gr.keep (Gr.ext (Gr.refl _) _) ?_) | (with_reducible refine Gr.keep (Gr.drew (Gr.refl _)) ?_)))
  have bB2 : ∀ w' : World, Gr B w' → w'.cell? ⟨w.heap.size, 2, none⟩ = some (.slice ax2 x2.length kx2) := fun w' hg => hg.keep (by rw [← hB]; repeat (first | ((with_reducible refine box_cell ?_ ?_) <;> first | omega | (simp; done) | (simp; omega) | rfl) | (with_reducible refine Gr.keep (Gr.alloc (Gr.refl _) _) ?_) | (with_reducible refine Gr.keep (Gr.ext (Gr.refl _) _) ?_) | (with_reducible refine Gr.keep (Gr.drew (Gr.refl _)) ?_)))
  have bB3 : ∀ w' : World, Gr B w' → w'.cell? ⟨w.heap.size, 3, none⟩ = some (.bool x3) := fun w' hg => hg.keep (by rw [← hB]; repeat (first | ((with_reducible refine box_cell ?_ ?_) <;> first | omega | (simp; done) | (simp; omega) | rfl) | (with_reducible refine Gr.keep (Gr.alloc (Gr.refl _) _) ?_) | (with_reducible refine Gr.keep (Gr.ext (Gr.refl _) _) ?_) | (with_reducible refine Gr.keep (Gr.drew (Gr.refl _)) ?_)))
  have bB4 : ∀ w' : World, Gr B w' → w'.cell? ⟨w.heap.size, 4, none⟩ = some (.slice ax4 x4.length kx4) := fun w' hg => hg.keep (by rw [← hB]; repeat (first | ((with_reducible refine box_cell ?_ ?_) <;> first | omega | (simp; done) | (simp; omega) | rfl) | (with_reducible refine Gr.keep (Gr.alloc (Gr.refl _) _) ?_) | (with_reducible refine Gr.keep (Gr.ext (Gr.refl _) _) ?_) | (with_reducible refine Gr.keep (Gr.drew (Gr.refl _)) ?_)))
  have bB5 : ∀ w' : World, Gr B w' → w'.cell? ⟨w.heap.size, 5, none⟩ = some (.slice ax5 x5.length kx5) := fun w' hg => hg.keep (by rw [← hB]; repeat (first | ((with_reducible refine box_cell ?_ ?_) <;> first | omega | (simp; done) | (simp; omega) | rfl) | (with_reducible refine Gr.keep (Gr.alloc (Gr.refl _) _) ?_) | (with_reducible refine Gr.keep (Gr.ext (Gr.refl _) _) ?_) | (with_reducible refine Gr.keep (Gr.drew (Gr.refl _)) ?_)))
  have bB6 : ∀ w' : World, Gr B w' → w'.cell? ⟨w.heap.size + 1, 0, none⟩ = some (.int .i64 n0) := fun w' hg => hg.keep (by rw [← hB]; repeat (first | ((with_reducible refine box_cell ?_ ?_) <;> first | omega | (simp; done) | (simp; omega) | rfl) | (with_reducible refine Gr.keep (Gr.alloc (Gr.refl _) _) ?_) | (with_reducible refine Gr.keep (Gr.ext (Gr.refl _) _) ?_) | (with_reducible refine Gr.keep (Gr.drew (Gr.refl _)) ?_)))
  have bB7 : ∀ w' : World, Gr B w' → w'.cell? ⟨w.heap.size + 1, 1, none⟩ = some (.string n1) := fun w' hg => hg.keep (by rw [← hB]; repeat (first | ((with_reducible refine box_cell ?_ ?_) <;> first | omega | (simp; done) | (simp; omega) | rfl) | (with_reducible refine Gr.keep (Gr.alloc (Gr.refl _) _) ?_) | (with_reducible refine Gr.keep (Gr.ext (Gr.refl _) _) ?_) | (with_reducible refine Gr.keep (Gr.drew (Gr.refl _)) ?_)))
  have sB : B.heap.size = w.heap.size + 3 := by rw [← hB]; first | (simp; done) | (simp; omega)
  have EB := Lib.hid hB
  clear hB
  go_loopw [11, 7] (fun s11 s7 wr => ∃ k : Nat, k ≤ x4.length ∧ Hid (∀ j (h : j < x4.length), j < k → decide (x4[j].1 = (n0, n1)) = false) ∧ Gr B wr ∧ s11 = .int .i64 k) (fun s11 _ _ => x4.length - (intOf s11).toNat)
  case atStart => exact ⟨0, by omega, Lib.hid (by omega), Gr.refl _, rfl⟩
  case round =>
    obtain ⟨k, hk, ht, hg, rfl⟩ := hrel
    rename World => W1
    have HGW := Lib.hid (gB.trans hg)
    have HGB := Lib.hid hg
    have y4 := bB4 _ hg
    have n0z := bB6 _ hg
    have n1z := bB7 _ hg
    have zy4 := blk y4
    have zn0 := blk n0z
    clear hg
    by_cases hlt : k < x4.length
    · have hlt2 := hlt
      have i0 : (0 : Int) ≤ (k : Int) := by omega
      have i1 : (k : Int) < (x4.length : Int) := by omega
      obtain ⟨b, off, rfl, hbb⟩ := ox43 k hlt
      obtain ⟨csq, feq, hcq, hrq, -⟩ := hx4.at hlt
      obtain ⟨yq, hyq⟩ : ∃ y, y = x4[k] := ⟨_, rfl⟩
      rw [← hyq] at hrq
      have HYq := Lib.hid hyq
      have HRq := Lib.hid hrq
      obtain ⟨⟨q00, q01⟩, ⟨q10, q11, q12, q13, q14, q15, q16⟩⟩ := yq
      obtain ⟨vq16, fq16, hcsq, -, hq00, hq01, hq10, hq11, hq12, hq13, hq14, hq15, hq16⟩ := rdEquation_inv (cs := csq.toArray) q00 q01 q10 q11 q12 q13 q14 q15 q16 (by simpa using hrq)
      obtain rfl : csq = [.int .i64 q00, .string q01, .int .i64 q10, .int .i64 q11, .int .i64 q12, .int .i64 q13, .string q14, .string q15, vq16] := by have := congrArg Array.toList hcsq; simpa using this
      obtain ⟨aq16, kq16, rfl, oq161, oq162, oq163⟩ := hq16.open
      have qz0 := HGW.out.keep (show w.cell? ⟨b, off + k * 9, none⟩ = some (.int .i64 q00) from by simpa [Rd.n] using hcq 0 _ rfl)
      have qz1 := HGW.out.keep (show w.cell? ⟨b, off + k * 9 + 1, none⟩ = some (.string q01) from hcq 1 _ rfl)
      have qz2 := HGW.out.keep (show w.cell? ⟨b, off + k * 9 + 2, none⟩ = some (.int .i64 q10) from hcq 2 _ rfl)
      have qz3 := HGW.out.keep (show w.cell? ⟨b, off + k * 9 + 3, none⟩ = some (.int .i64 q11) from hcq 3 _ rfl)
      have qz4 := HGW.out.keep (show w.cell? ⟨b, off + k * 9 + 4, none⟩ = some (.int .i64 q12) from hcq 4 _ rfl)
      have qz5 := HGW.out.keep (show w.cell? ⟨b, off + k * 9 + 5, none⟩ = some (.int .i64 q13) from hcq 5 _ rfl)
      have qz6 := HGW.out.keep (show w.cell? ⟨b, off + k * 9 + 6, none⟩ = some (.string q14) from hcq 6 _ rfl)
      have qz7 := HGW.out.keep (show w.cell? ⟨b, off + k * 9 + 7, none⟩ = some (.string q15) from hcq 7 _ rfl)
      have qz8 := HGW.out.keep (show w.cell? ⟨b, off + k * 9 + 8, none⟩ = some (.slice aq16 q16.length kq16) from hcq 8 _ rfl)
      have qzb := blk qz0
      clear hcsq hcq hrq hyq
      have hcase : (q00 = n0 ∧ q01 = n1) ∨ (q00 ≠ n0) ∨ (q00 = n0 ∧ q01.toList ≠ n1.toList) :=
        (Classical.em (q00 = n0)).elim (fun t0 => (Classical.em (q01 = n1)).elim (fun t1 => .inl ⟨t0, t1⟩) (fun t1 => .inr (.inr ⟨t0, fun e => t1 (str_inj e)⟩))) (fun t0 => .inr (.inl t0))
      rcases hcase with ⟨rfl, rfl⟩ | e | ⟨rfl, e⟩
      · have hl : eqnOf x4 (q00, q01) = some (q10, q11, q12, q13, q14, q15, q16) := by
          have h1 : lookQ x4 (q00, q01) = some x4[k] := find_at hlt (by rw [← HYq.out]; simp) ht.out
          unfold eqnOf
          rw [h1, ← HYq.out]
          rfl
        have HL := Lib.hid hl
        have hw : wtEquation x4[k] ≤ 1048576 := Nat.le_trans (wtL_at wtEquation x4 hlt) HWT.out
        rw [← HYq.out] at hw
        have hw2 : wtExpr (q10, q11, q12, q13, q14, q15, q16) ≤ 1048576 := by
          have h : q01.size + wtExpr (q10, q11, q12, q13, q14, q15, q16) ≤ 1048576 := hw
          omega
        have HW := Lib.hid hw2
        have HX := Lib.hid (rdExpr_mk q10 q11 q12 q13 q14 q15 q16 hq10 hq11 hq12 hq13 hq14 hq15 hq16)
        clear hl hw hw2
        go_wp2_with fail
        refine (copyExpr_any _ _ (q10, q11, q12, q13, q14, q15, q16) _ (Rd.gr HX.out (HGW.out.trans (by repeat (first | exact Gr.refl _ | apply Gr.ext | apply Gr.alloc | apply Gr.drew)))) HW.out).mono ?_
        rintro e w' ⟨es, fq, rfl, hr, hf, z1, rfl⟩
        have HR2 := Lib.hid hr
        have HF2 := Lib.hid hf
        obtain ⟨r0, r1, r2, r3, r4, r5, ar6, lr6, kr6, rfl⟩ := rdExpr_shape hr
        clear hr hf
        obtain ⟨y, rfl⟩ := HGB.out
        obtain rfl := EB.out
        go_wp2_with fail
        exact bodyPost_ret (v := .tuple #[.agg #[.int .i64 r0, .int .i64 r1, .int .i64 r2, .int .i64 r3, .string r4, .string r5, .slice ar6 lr6 kr6], .bool true])
          (by simp [results, Tryz.results96, go_sem]) rfl ⟨_, fq, by rw [HL.out]; rfl, by rw [HL.out, Option.getD_some]; exact Rd.moved HR2.out HF2.out (by repeat (first | exact Gr.refl _ | apply Gr.ext | apply Gr.alloc | apply Gr.drew)) (by simp), fun c hc => .inr (Nat.le_trans (by simp <;> omega) (HF2.out.2 c hc)), (by repeat (first | exact Gr.refl _ | apply Gr.ext | apply Gr.alloc | apply Gr.drew))⟩
      all_goals
        have E := Lib.hid e
        go_wp2_with fail
        refine ⟨⟨k + 1, by omega, Lib.hid fun j hj hjk => ?_, HGB.out.trans (by repeat (first | exact Gr.refl _ | apply Gr.ext | apply Gr.alloc | apply Gr.drew)), by go_num⟩, by simp [intOf]; omega⟩
        by_cases hjk2 : j < k
        · exact ht.out j hj hjk2
        · obtain rfl : j = k := by omega
          rw [← HYq.out]
          refine decide_eq_false fun h => E.out ?_
          simp only [Prod.mk.injEq, true_and] at h
          simp [h]
    · have hn : eqnOf x4 (n0, n1) = none := by
        have h1 : lookQ x4 (n0, n1) = none := find_none fun j hj => ht.out j hj (by omega)
        unfold eqnOf
        rw [h1]
        rfl
      have HL := Lib.hid hn
      clear hn
      obtain ⟨y, rfl⟩ := HGB.out
      obtain rfl := EB.out
      go_wp2_with fail
      exact bodyPost_ret (v := .tuple #[.agg #[.int .i64 0, .int .i64 0, .int .i64 0, .int .i64 0, .string ⟨#[]⟩, .string ⟨#[]⟩, .slice none 0 0], .bool false])
        (by simp [results, Tryz.results96, go_sem]) rfl ⟨_, _, by rw [HL.out]; rfl, by rw [HL.out]; exact zeroX_rd _, by simp, (by repeat (first | exact Gr.refl _ | apply Gr.ext | apply Gr.alloc | apply Gr.drew))⟩

set_option maxRecDepth 10000 in
set_option maxHeartbeats 4000000 in
theorem specFindEq_any {fx : List Nat} {cx : Array Value} (x : (GRule d)) {fn : List Nat} {cn : Array Value} (n : GOccurrence) (w : World) (hx : Rd.rd fx w cx.toList x) (hn : Rd.rd fn w cn.toList n) (hl : wtRule x ≤ 1048576) :
    Calls Tryz.prog 86 #[.agg cx, .agg cn] w (Found [] w (eqnOf x.2.2.2.2.1 n) zeroX) := by
  have HX := Lib.hid hx
  obtain ⟨x0, x1, x2, x3, x4, x5⟩ := x
  obtain ⟨vx2, fx2, vx4, fx4, vx5, fx5, rfl, hfpx, hx0, hx1, hx2, hx4, hx5⟩ := rdRule_inv x0 x1 x2 x3 x4 x5 hx
  have FPx := Lib.hid hfpx
  clear hfpx
  obtain ⟨ax2, kx2, rfl, ox21, ox22, ox23⟩ := hx2.open
  obtain ⟨ax4, kx4, rfl, ox41, ox42, ox43⟩ := hx4.open
  obtain ⟨ax5, kx5, rfl, ox51, ox52, ox53⟩ := hx5.open
  clear hx
  have hws : wtEquationS x4 ≤ 1048576 := by
    have h : x0.size + x1.size + wtStringS x2 + wtEquationS x4 + wtContributionS x5 ≤ 1048576 := hl
    omega
  have HWT := Lib.hid hws
  clear hl hws
  have HN := Lib.hid hn
  obtain ⟨n0, n1⟩ := n
  obtain ⟨rfl, hfpn, hn0, hn1⟩ := rdOccurrence_inv n0 n1 hn
  have FPn := Lib.hid hfpn
  clear hfpn
  clear hn
  go_enter Tryz.func86, Tryz.ntmps86
  go_wp2_with fail
  generalize hB : ((w.alloc (.cells #[.string x0, .string x1, .slice ax2 x2.length kx2, .bool x3, .slice ax4 x4.length kx4, .slice ax5 x5.length kx5] 101)).alloc (.cells #[.int .i64 n0, .string n1] 154)).alloc (.cells #[.int .i64 0, .int .i64 0, .int .i64 0, .int .i64 0, .string ⟨#[]⟩, .string ⟨#[]⟩, .slice none 0 0] 87) = B
  have gB : Gr w B := by rw [← hB]; exact (by repeat (first | exact Gr.refl _ | apply Gr.ext | apply Gr.alloc | apply Gr.drew))
  have bB0 : ∀ w' : World, Gr B w' → w'.cell? ⟨w.heap.size, 0, none⟩ = some (.string x0) := fun w' hg => hg.keep (by rw [← hB]; repeat (first | ((with_reducible refine box_cell ?_ ?_) <;> first | omega | (simp; done) | (simp; omega) | rfl) | (with_reducible refine Gr.keep (Gr.alloc (Gr.refl _) _) ?_) | (with_reducible refine Gr.keep (Gr.ext (Gr.refl _) _) ?_) | (with_reducible refine Gr.keep (Gr.drew (Gr.refl _)) ?_)))
  have bB1 : ∀ w' : World, Gr B w' → w'.cell? ⟨w.heap.size, 1, none⟩ = some (.string x1) := fun w' hg => hg.keep (by rw [← hB]; repeat (first | ((with_reducible refine box_cell ?_ ?_) <;> first | omega | (simp; done) | (simp; omega) | rfl) | (with_reducible refine Gr.keep (Gr.alloc (Gr.refl _) _) ?_) | (with_reducible refine Gr.keep (Gr.ext (Gr.refl _) _) ?_) | (with_reducible refine Gr.keep (Gr.drew (Gr.refl _)) ?_)))
  have bB2 : ∀ w' : World, Gr B w' → w'.cell? ⟨w.heap.size, 2, none⟩ = some (.slice ax2 x2.length kx2) := fun w' hg => hg.keep (by rw [← hB]; repeat (first | ((with_reducible refine box_cell ?_ ?_) <;> first | omega | (simp; done) | (simp; omega) | rfl) | (with_reducible refine Gr.keep (Gr.alloc (Gr.refl _) _) ?_) | (with_reducible refine Gr.keep (Gr.ext (Gr.refl _) _) ?_) | (with_reducible refine Gr.keep (Gr.drew (Gr.refl _)) ?_)))
  have bB3 : ∀ w' : World, Gr B w' → w'.cell? ⟨w.heap.size, 3, none⟩ = some (.bool x3) := fun w' hg => hg.keep (by rw [← hB]; repeat (first | ((with_reducible refine box_cell ?_ ?_) <;> first | omega | (simp; done) | (simp; omega) | rfl) | (with_reducible refine Gr.keep (Gr.alloc (Gr.refl _) _) ?_) | (with_reducible refine Gr.keep (Gr.ext (Gr.refl _) _) ?_) | (with_reducible refine Gr.keep (Gr.drew (Gr.refl _)) ?_)))
  have bB4 : ∀ w' : World, Gr B w' → w'.cell? ⟨w.heap.size, 4, none⟩ = some (.slice ax4 x4.length kx4) := fun w' hg => hg.keep (by rw [← hB]; repeat (first | ((with_reducible refine box_cell ?_ ?_) <;> first | omega | (simp; done) | (simp; omega) | rfl) | (with_reducible refine Gr.keep (Gr.alloc (Gr.refl _) _) ?_) | (with_reducible refine Gr.keep (Gr.ext (Gr.refl _) _) ?_) | (with_reducible refine Gr.keep (Gr.drew (Gr.refl _)) ?_)))
  have bB5 : ∀ w' : World, Gr B w' → w'.cell? ⟨w.heap.size, 5, none⟩ = some (.slice ax5 x5.length kx5) := fun w' hg => hg.keep (by rw [← hB]; repeat (first | ((with_reducible refine box_cell ?_ ?_) <;> first | omega | (simp; done) | (simp; omega) | rfl) | (with_reducible refine Gr.keep (Gr.alloc (Gr.refl _) _) ?_) | (with_reducible refine Gr.keep (Gr.ext (Gr.refl _) _) ?_) | (with_reducible refine Gr.keep (Gr.drew (Gr.refl _)) ?_)))
  have bB6 : ∀ w' : World, Gr B w' → w'.cell? ⟨w.heap.size + 1, 0, none⟩ = some (.int .i64 n0) := fun w' hg => hg.keep (by rw [← hB]; repeat (first | ((with_reducible refine box_cell ?_ ?_) <;> first | omega | (simp; done) | (simp; omega) | rfl) | (with_reducible refine Gr.keep (Gr.alloc (Gr.refl _) _) ?_) | (with_reducible refine Gr.keep (Gr.ext (Gr.refl _) _) ?_) | (with_reducible refine Gr.keep (Gr.drew (Gr.refl _)) ?_)))
  have bB7 : ∀ w' : World, Gr B w' → w'.cell? ⟨w.heap.size + 1, 1, none⟩ = some (.string n1) := fun w' hg => hg.keep (by rw [← hB]; repeat (first | ((with_reducible refine box_cell ?_ ?_) <;> first | omega | (simp; done) | (simp; omega) | rfl) | (with_reducible refine Gr.keep (Gr.alloc (Gr.refl _) _) ?_) | (with_reducible refine Gr.keep (Gr.ext (Gr.refl _) _) ?_) | (with_reducible refine Gr.keep (Gr.drew (Gr.refl _)) ?_)))
  have sB : B.heap.size = w.heap.size + 3 := by rw [← hB]; first | (simp; done) | (simp; omega)
  have EB := Lib.hid hB
  clear hB
  go_loopw [6] (fun s6 wr => ∃ k : Nat, k ≤ x4.length ∧ Hid (∀ j (h : j < x4.length), j < k → decide (x4[j].1 = (n0, n1)) = false) ∧ Gr B wr ∧ s6 = .int .i64 k) (fun s6 _ => x4.length - (intOf s6).toNat)
  case atStart => exact ⟨0, by omega, Lib.hid (by omega), Gr.refl _, rfl⟩
  case round =>
    obtain ⟨k, hk, ht, hg, rfl⟩ := hrel
    rename World => W1
    have HGW := Lib.hid (gB.trans hg)
    have HGB := Lib.hid hg
    have y4 := bB4 _ hg
    have n0z := bB6 _ hg
    have n1z := bB7 _ hg
    have zy4 := blk y4
    have zn0 := blk n0z
    clear hg
    by_cases hlt : k < x4.length
    · have hlt2 := hlt
      have i0 : (0 : Int) ≤ (k : Int) := by omega
      have i1 : (k : Int) < (x4.length : Int) := by omega
      obtain ⟨b, off, rfl, hbb⟩ := ox43 k hlt
      obtain ⟨csq, feq, hcq, hrq, -⟩ := hx4.at hlt
      obtain ⟨yq, hyq⟩ : ∃ y, y = x4[k] := ⟨_, rfl⟩
      rw [← hyq] at hrq
      have HYq := Lib.hid hyq
      have HRq := Lib.hid hrq
      obtain ⟨⟨q00, q01⟩, ⟨q10, q11, q12, q13, q14, q15, q16⟩⟩ := yq
      obtain ⟨vq16, fq16, hcsq, -, hq00, hq01, hq10, hq11, hq12, hq13, hq14, hq15, hq16⟩ := rdEquation_inv (cs := csq.toArray) q00 q01 q10 q11 q12 q13 q14 q15 q16 (by simpa using hrq)
      obtain rfl : csq = [.int .i64 q00, .string q01, .int .i64 q10, .int .i64 q11, .int .i64 q12, .int .i64 q13, .string q14, .string q15, vq16] := by have := congrArg Array.toList hcsq; simpa using this
      obtain ⟨aq16, kq16, rfl, oq161, oq162, oq163⟩ := hq16.open
      have qz0 := HGW.out.keep (show w.cell? ⟨b, off + k * 9, none⟩ = some (.int .i64 q00) from by simpa [Rd.n] using hcq 0 _ rfl)
      have qz1 := HGW.out.keep (show w.cell? ⟨b, off + k * 9 + 1, none⟩ = some (.string q01) from hcq 1 _ rfl)
      have qz2 := HGW.out.keep (show w.cell? ⟨b, off + k * 9 + 2, none⟩ = some (.int .i64 q10) from hcq 2 _ rfl)
      have qz3 := HGW.out.keep (show w.cell? ⟨b, off + k * 9 + 3, none⟩ = some (.int .i64 q11) from hcq 3 _ rfl)
      have qz4 := HGW.out.keep (show w.cell? ⟨b, off + k * 9 + 4, none⟩ = some (.int .i64 q12) from hcq 4 _ rfl)
      have qz5 := HGW.out.keep (show w.cell? ⟨b, off + k * 9 + 5, none⟩ = some (.int .i64 q13) from hcq 5 _ rfl)
      have qz6 := HGW.out.keep (show w.cell? ⟨b, off + k * 9 + 6, none⟩ = some (.string q14) from hcq 6 _ rfl)
      have qz7 := HGW.out.keep (show w.cell? ⟨b, off + k * 9 + 7, none⟩ = some (.string q15) from hcq 7 _ rfl)
      have qz8 := HGW.out.keep (show w.cell? ⟨b, off + k * 9 + 8, none⟩ = some (.slice aq16 q16.length kq16) from hcq 8 _ rfl)
      have qzb := blk qz0
      clear hcsq hcq hrq hyq
      have hcase : (q00 = n0 ∧ q01 = n1) ∨ (q00 ≠ n0) ∨ (q00 = n0 ∧ q01.toList ≠ n1.toList) :=
        (Classical.em (q00 = n0)).elim (fun t0 => (Classical.em (q01 = n1)).elim (fun t1 => .inl ⟨t0, t1⟩) (fun t1 => .inr (.inr ⟨t0, fun e => t1 (str_inj e)⟩))) (fun t0 => .inr (.inl t0))
      rcases hcase with ⟨rfl, rfl⟩ | e | ⟨rfl, e⟩
      · have hl : eqnOf x4 (q00, q01) = some (q10, q11, q12, q13, q14, q15, q16) := by
          have h1 : lookQ x4 (q00, q01) = some x4[k] := find_at hlt (by rw [← HYq.out]; simp) ht.out
          unfold eqnOf
          rw [h1, ← HYq.out]
          rfl
        have HL := Lib.hid hl
        have hw : wtEquation x4[k] ≤ 1048576 := Nat.le_trans (wtL_at wtEquation x4 hlt) HWT.out
        rw [← HYq.out] at hw
        have hw2 : wtExpr (q10, q11, q12, q13, q14, q15, q16) ≤ 1048576 := by
          have h : q01.size + wtExpr (q10, q11, q12, q13, q14, q15, q16) ≤ 1048576 := hw
          omega
        have HW := Lib.hid hw2
        have HX := Lib.hid (rdExpr_mk q10 q11 q12 q13 q14 q15 q16 hq10 hq11 hq12 hq13 hq14 hq15 hq16)
        clear hl hw hw2
        go_wp2_with fail
        refine wp_region_grown (by kernel_rfl) (by kernel_rfl) ?_
        repeat (go_big_quiet_step (fail))
        refine wpQuiet_nil ?_
        intro _ hw'
        obtain ⟨nx, hw''⟩ := hw'
        subst hw''
        go_wp2_with fail
        refine (l4Copy_any _ _ (q10, q11, q12, q13, q14, q15, q16) _ (Rd.gr HX.out (HGW.out.trans (by repeat (first | exact Gr.refl _ | apply Gr.ext | apply Gr.alloc | apply Gr.drew)))) HW.out).mono ?_
        rintro e w' ⟨es, fq, rfl, hr, hf, z1, rfl⟩
        have HR2 := Lib.hid hr
        have HF2 := Lib.hid hf
        obtain ⟨r0, r1, r2, r3, r4, r5, ar6, lr6, kr6, rfl⟩ := rdExpr_shape hr
        clear hr hf
        obtain ⟨y, rfl⟩ := HGB.out
        obtain rfl := EB.out
        go_wp2_with fail
        exact bodyPost_ret (v := .tuple #[.agg #[.int .i64 r0, .int .i64 r1, .int .i64 r2, .int .i64 r3, .string r4, .string r5, .slice ar6 lr6 kr6], .bool true])
          (by simp [results, Tryz.results86, go_sem]) rfl ⟨_, fq, by rw [HL.out]; rfl, by rw [HL.out, Option.getD_some]; exact Rd.moved HR2.out HF2.out (by repeat (first | exact Gr.refl _ | apply Gr.ext | apply Gr.alloc | apply Gr.drew)) (by simp), fun c hc => .inr (Nat.le_trans (by simp <;> omega) (HF2.out.2 c hc)), (by repeat (first | exact Gr.refl _ | apply Gr.ext | apply Gr.alloc | apply Gr.drew))⟩
      all_goals
        have E := Lib.hid e
        go_wp2_with fail
        refine wp_region_grown (by kernel_rfl) (by kernel_rfl) ?_
        repeat (go_big_quiet_step (fail))
        refine wpQuiet_nil ?_
        intro _ hw'
        obtain ⟨nx, hw''⟩ := hw'
        subst hw''
        go_wp2_with fail
        refine ⟨⟨k + 1, by omega, Lib.hid fun j hj hjk => ?_, HGB.out.trans (by repeat (first | exact Gr.refl _ | apply Gr.ext | apply Gr.alloc | apply Gr.drew)), by go_num⟩, by simp [intOf]; omega⟩
        by_cases hjk2 : j < k
        · exact ht.out j hj hjk2
        · obtain rfl : j = k := by omega
          rw [← HYq.out]
          refine decide_eq_false fun h => E.out ?_
          simp only [Prod.mk.injEq, true_and] at h
          simp [h]
    · have hn : eqnOf x4 (n0, n1) = none := by
        have h1 : lookQ x4 (n0, n1) = none := find_none fun j hj => ht.out j hj (by omega)
        unfold eqnOf
        rw [h1]
        rfl
      have HL := Lib.hid hn
      clear hn
      obtain ⟨y, rfl⟩ := HGB.out
      obtain rfl := EB.out
      go_wp2_with fail
      exact bodyPost_ret (v := .tuple #[.agg #[.int .i64 0, .int .i64 0, .int .i64 0, .int .i64 0, .string ⟨#[]⟩, .string ⟨#[]⟩, .slice none 0 0], .bool false])
        (by simp [results, Tryz.results86, go_sem]) rfl ⟨_, _, by rw [HL.out]; rfl, by rw [HL.out]; exact zeroX_rd _, by simp, (by repeat (first | exact Gr.refl _ | apply Gr.ext | apply Gr.alloc | apply Gr.drew))⟩
end Go.Proofs.YtbfmeiooeaaibaaGreat

namespace Go.Proofs.YtbfmeiooeaaibaaGreat
open Go.RowKit

theorem VRow.new {A : World} {n : Nat} {t : TypeId} {vs : List Value} (h : n = A.heap.size) : VRow (A.alloc (.cells vs.toArray t)) n t vs := by subst h; exact heap_alloc_new A _

theorem VRow.put1 {w : World} {b : Nat} {t : TypeId} {a0 : Value} (h : VRow w b t [a0]) (v0 : Value) : VRow (w.setCell ⟨b, 0, none⟩ v0) b t [v0] := (VRow.set h 0 v0)
theorem Gr.put1 {w0 w : World} {b : Nat} (h : Gr w0 w) (hb : w0.heap.size ≤ b) (v0 : Value) : Gr w0 (w.setCell ⟨b, 0, none⟩ v0) := (Gr.setCell (p := ⟨b, 0, none⟩) h hb v0)
theorem Wr.put1 (w : World) (b : Nat) (v0 : Value) : Wr [b] w (w.setCell ⟨b, 0, none⟩ v0) := (Wr.setCell (Wr.refl [b] w) (List.mem_singleton.2 rfl) v0)

theorem VRow.put2 {w : World} {b : Nat} {t : TypeId} {a0 a1 : Value} (h : VRow w b t [a0, a1]) (v0 v1 : Value) : VRow ((w.setCell ⟨b, 0, none⟩ v0).setCell ⟨b, 1, none⟩ v1) b t [v0, v1] := (VRow.set (VRow.set h 0 v0) 1 v1)
theorem Gr.put2 {w0 w : World} {b : Nat} (h : Gr w0 w) (hb : w0.heap.size ≤ b) (v0 v1 : Value) : Gr w0 ((w.setCell ⟨b, 0, none⟩ v0).setCell ⟨b, 1, none⟩ v1) := (Gr.setCell (p := ⟨b, 1, none⟩) (Gr.setCell (p := ⟨b, 0, none⟩) h hb v0) hb v1)
theorem Wr.put2 (w : World) (b : Nat) (v0 v1 : Value) : Wr [b] w ((w.setCell ⟨b, 0, none⟩ v0).setCell ⟨b, 1, none⟩ v1) := (Wr.setCell (Wr.setCell (Wr.refl [b] w) (List.mem_singleton.2 rfl) v0) (List.mem_singleton.2 rfl) v1)

theorem VRow.put3 {w : World} {b : Nat} {t : TypeId} {a0 a1 a2 : Value} (h : VRow w b t [a0, a1, a2]) (v0 v1 v2 : Value) : VRow (((w.setCell ⟨b, 0, none⟩ v0).setCell ⟨b, 1, none⟩ v1).setCell ⟨b, 2, none⟩ v2) b t [v0, v1, v2] := (VRow.set (VRow.set (VRow.set h 0 v0) 1 v1) 2 v2)
theorem Gr.put3 {w0 w : World} {b : Nat} (h : Gr w0 w) (hb : w0.heap.size ≤ b) (v0 v1 v2 : Value) : Gr w0 (((w.setCell ⟨b, 0, none⟩ v0).setCell ⟨b, 1, none⟩ v1).setCell ⟨b, 2, none⟩ v2) := (Gr.setCell (p := ⟨b, 2, none⟩) (Gr.setCell (p := ⟨b, 1, none⟩) (Gr.setCell (p := ⟨b, 0, none⟩) h hb v0) hb v1) hb v2)
theorem Wr.put3 (w : World) (b : Nat) (v0 v1 v2 : Value) : Wr [b] w (((w.setCell ⟨b, 0, none⟩ v0).setCell ⟨b, 1, none⟩ v1).setCell ⟨b, 2, none⟩ v2) := (Wr.setCell (Wr.setCell (Wr.setCell (Wr.refl [b] w) (List.mem_singleton.2 rfl) v0) (List.mem_singleton.2 rfl) v1) (List.mem_singleton.2 rfl) v2)

theorem VRow.put4 {w : World} {b : Nat} {t : TypeId} {a0 a1 a2 a3 : Value} (h : VRow w b t [a0, a1, a2, a3]) (v0 v1 v2 v3 : Value) : VRow ((((w.setCell ⟨b, 0, none⟩ v0).setCell ⟨b, 1, none⟩ v1).setCell ⟨b, 2, none⟩ v2).setCell ⟨b, 3, none⟩ v3) b t [v0, v1, v2, v3] := (VRow.set (VRow.set (VRow.set (VRow.set h 0 v0) 1 v1) 2 v2) 3 v3)
theorem Gr.put4 {w0 w : World} {b : Nat} (h : Gr w0 w) (hb : w0.heap.size ≤ b) (v0 v1 v2 v3 : Value) : Gr w0 ((((w.setCell ⟨b, 0, none⟩ v0).setCell ⟨b, 1, none⟩ v1).setCell ⟨b, 2, none⟩ v2).setCell ⟨b, 3, none⟩ v3) := (Gr.setCell (p := ⟨b, 3, none⟩) (Gr.setCell (p := ⟨b, 2, none⟩) (Gr.setCell (p := ⟨b, 1, none⟩) (Gr.setCell (p := ⟨b, 0, none⟩) h hb v0) hb v1) hb v2) hb v3)
theorem Wr.put4 (w : World) (b : Nat) (v0 v1 v2 v3 : Value) : Wr [b] w ((((w.setCell ⟨b, 0, none⟩ v0).setCell ⟨b, 1, none⟩ v1).setCell ⟨b, 2, none⟩ v2).setCell ⟨b, 3, none⟩ v3) := (Wr.setCell (Wr.setCell (Wr.setCell (Wr.setCell (Wr.refl [b] w) (List.mem_singleton.2 rfl) v0) (List.mem_singleton.2 rfl) v1) (List.mem_singleton.2 rfl) v2) (List.mem_singleton.2 rfl) v3)

theorem VRow.put5 {w : World} {b : Nat} {t : TypeId} {a0 a1 a2 a3 a4 : Value} (h : VRow w b t [a0, a1, a2, a3, a4]) (v0 v1 v2 v3 v4 : Value) : VRow (((((w.setCell ⟨b, 0, none⟩ v0).setCell ⟨b, 1, none⟩ v1).setCell ⟨b, 2, none⟩ v2).setCell ⟨b, 3, none⟩ v3).setCell ⟨b, 4, none⟩ v4) b t [v0, v1, v2, v3, v4] := (VRow.set (VRow.set (VRow.set (VRow.set (VRow.set h 0 v0) 1 v1) 2 v2) 3 v3) 4 v4)
theorem Gr.put5 {w0 w : World} {b : Nat} (h : Gr w0 w) (hb : w0.heap.size ≤ b) (v0 v1 v2 v3 v4 : Value) : Gr w0 (((((w.setCell ⟨b, 0, none⟩ v0).setCell ⟨b, 1, none⟩ v1).setCell ⟨b, 2, none⟩ v2).setCell ⟨b, 3, none⟩ v3).setCell ⟨b, 4, none⟩ v4) := (Gr.setCell (p := ⟨b, 4, none⟩) (Gr.setCell (p := ⟨b, 3, none⟩) (Gr.setCell (p := ⟨b, 2, none⟩) (Gr.setCell (p := ⟨b, 1, none⟩) (Gr.setCell (p := ⟨b, 0, none⟩) h hb v0) hb v1) hb v2) hb v3) hb v4)
theorem Wr.put5 (w : World) (b : Nat) (v0 v1 v2 v3 v4 : Value) : Wr [b] w (((((w.setCell ⟨b, 0, none⟩ v0).setCell ⟨b, 1, none⟩ v1).setCell ⟨b, 2, none⟩ v2).setCell ⟨b, 3, none⟩ v3).setCell ⟨b, 4, none⟩ v4) := (Wr.setCell (Wr.setCell (Wr.setCell (Wr.setCell (Wr.setCell (Wr.refl [b] w) (List.mem_singleton.2 rfl) v0) (List.mem_singleton.2 rfl) v1) (List.mem_singleton.2 rfl) v2) (List.mem_singleton.2 rfl) v3) (List.mem_singleton.2 rfl) v4)

theorem VRow.put6 {w : World} {b : Nat} {t : TypeId} {a0 a1 a2 a3 a4 a5 : Value} (h : VRow w b t [a0, a1, a2, a3, a4, a5]) (v0 v1 v2 v3 v4 v5 : Value) : VRow ((((((w.setCell ⟨b, 0, none⟩ v0).setCell ⟨b, 1, none⟩ v1).setCell ⟨b, 2, none⟩ v2).setCell ⟨b, 3, none⟩ v3).setCell ⟨b, 4, none⟩ v4).setCell ⟨b, 5, none⟩ v5) b t [v0, v1, v2, v3, v4, v5] := (VRow.set (VRow.set (VRow.set (VRow.set (VRow.set (VRow.set h 0 v0) 1 v1) 2 v2) 3 v3) 4 v4) 5 v5)
theorem Gr.put6 {w0 w : World} {b : Nat} (h : Gr w0 w) (hb : w0.heap.size ≤ b) (v0 v1 v2 v3 v4 v5 : Value) : Gr w0 ((((((w.setCell ⟨b, 0, none⟩ v0).setCell ⟨b, 1, none⟩ v1).setCell ⟨b, 2, none⟩ v2).setCell ⟨b, 3, none⟩ v3).setCell ⟨b, 4, none⟩ v4).setCell ⟨b, 5, none⟩ v5) := (Gr.setCell (p := ⟨b, 5, none⟩) (Gr.setCell (p := ⟨b, 4, none⟩) (Gr.setCell (p := ⟨b, 3, none⟩) (Gr.setCell (p := ⟨b, 2, none⟩) (Gr.setCell (p := ⟨b, 1, none⟩) (Gr.setCell (p := ⟨b, 0, none⟩) h hb v0) hb v1) hb v2) hb v3) hb v4) hb v5)
theorem Wr.put6 (w : World) (b : Nat) (v0 v1 v2 v3 v4 v5 : Value) : Wr [b] w ((((((w.setCell ⟨b, 0, none⟩ v0).setCell ⟨b, 1, none⟩ v1).setCell ⟨b, 2, none⟩ v2).setCell ⟨b, 3, none⟩ v3).setCell ⟨b, 4, none⟩ v4).setCell ⟨b, 5, none⟩ v5) := (Wr.setCell (Wr.setCell (Wr.setCell (Wr.setCell (Wr.setCell (Wr.setCell (Wr.refl [b] w) (List.mem_singleton.2 rfl) v0) (List.mem_singleton.2 rfl) v1) (List.mem_singleton.2 rfl) v2) (List.mem_singleton.2 rfl) v3) (List.mem_singleton.2 rfl) v4) (List.mem_singleton.2 rfl) v5)

theorem VRow.put7 {w : World} {b : Nat} {t : TypeId} {a0 a1 a2 a3 a4 a5 a6 : Value} (h : VRow w b t [a0, a1, a2, a3, a4, a5, a6]) (v0 v1 v2 v3 v4 v5 v6 : Value) : VRow (((((((w.setCell ⟨b, 0, none⟩ v0).setCell ⟨b, 1, none⟩ v1).setCell ⟨b, 2, none⟩ v2).setCell ⟨b, 3, none⟩ v3).setCell ⟨b, 4, none⟩ v4).setCell ⟨b, 5, none⟩ v5).setCell ⟨b, 6, none⟩ v6) b t [v0, v1, v2, v3, v4, v5, v6] := (VRow.set (VRow.set (VRow.set (VRow.set (VRow.set (VRow.set (VRow.set h 0 v0) 1 v1) 2 v2) 3 v3) 4 v4) 5 v5) 6 v6)
theorem Gr.put7 {w0 w : World} {b : Nat} (h : Gr w0 w) (hb : w0.heap.size ≤ b) (v0 v1 v2 v3 v4 v5 v6 : Value) : Gr w0 (((((((w.setCell ⟨b, 0, none⟩ v0).setCell ⟨b, 1, none⟩ v1).setCell ⟨b, 2, none⟩ v2).setCell ⟨b, 3, none⟩ v3).setCell ⟨b, 4, none⟩ v4).setCell ⟨b, 5, none⟩ v5).setCell ⟨b, 6, none⟩ v6) := (Gr.setCell (p := ⟨b, 6, none⟩) (Gr.setCell (p := ⟨b, 5, none⟩) (Gr.setCell (p := ⟨b, 4, none⟩) (Gr.setCell (p := ⟨b, 3, none⟩) (Gr.setCell (p := ⟨b, 2, none⟩) (Gr.setCell (p := ⟨b, 1, none⟩) (Gr.setCell (p := ⟨b, 0, none⟩) h hb v0) hb v1) hb v2) hb v3) hb v4) hb v5) hb v6)
theorem Wr.put7 (w : World) (b : Nat) (v0 v1 v2 v3 v4 v5 v6 : Value) : Wr [b] w (((((((w.setCell ⟨b, 0, none⟩ v0).setCell ⟨b, 1, none⟩ v1).setCell ⟨b, 2, none⟩ v2).setCell ⟨b, 3, none⟩ v3).setCell ⟨b, 4, none⟩ v4).setCell ⟨b, 5, none⟩ v5).setCell ⟨b, 6, none⟩ v6) := (Wr.setCell (Wr.setCell (Wr.setCell (Wr.setCell (Wr.setCell (Wr.setCell (Wr.setCell (Wr.refl [b] w) (List.mem_singleton.2 rfl) v0) (List.mem_singleton.2 rfl) v1) (List.mem_singleton.2 rfl) v2) (List.mem_singleton.2 rfl) v3) (List.mem_singleton.2 rfl) v4) (List.mem_singleton.2 rfl) v5) (List.mem_singleton.2 rfl) v6)

theorem VRow.put8 {w : World} {b : Nat} {t : TypeId} {a0 a1 a2 a3 a4 a5 a6 a7 : Value} (h : VRow w b t [a0, a1, a2, a3, a4, a5, a6, a7]) (v0 v1 v2 v3 v4 v5 v6 v7 : Value) : VRow ((((((((w.setCell ⟨b, 0, none⟩ v0).setCell ⟨b, 1, none⟩ v1).setCell ⟨b, 2, none⟩ v2).setCell ⟨b, 3, none⟩ v3).setCell ⟨b, 4, none⟩ v4).setCell ⟨b, 5, none⟩ v5).setCell ⟨b, 6, none⟩ v6).setCell ⟨b, 7, none⟩ v7) b t [v0, v1, v2, v3, v4, v5, v6, v7] := (VRow.set (VRow.set (VRow.set (VRow.set (VRow.set (VRow.set (VRow.set (VRow.set h 0 v0) 1 v1) 2 v2) 3 v3) 4 v4) 5 v5) 6 v6) 7 v7)
theorem Gr.put8 {w0 w : World} {b : Nat} (h : Gr w0 w) (hb : w0.heap.size ≤ b) (v0 v1 v2 v3 v4 v5 v6 v7 : Value) : Gr w0 ((((((((w.setCell ⟨b, 0, none⟩ v0).setCell ⟨b, 1, none⟩ v1).setCell ⟨b, 2, none⟩ v2).setCell ⟨b, 3, none⟩ v3).setCell ⟨b, 4, none⟩ v4).setCell ⟨b, 5, none⟩ v5).setCell ⟨b, 6, none⟩ v6).setCell ⟨b, 7, none⟩ v7) := (Gr.setCell (p := ⟨b, 7, none⟩) (Gr.setCell (p := ⟨b, 6, none⟩) (Gr.setCell (p := ⟨b, 5, none⟩) (Gr.setCell (p := ⟨b, 4, none⟩) (Gr.setCell (p := ⟨b, 3, none⟩) (Gr.setCell (p := ⟨b, 2, none⟩) (Gr.setCell (p := ⟨b, 1, none⟩) (Gr.setCell (p := ⟨b, 0, none⟩) h hb v0) hb v1) hb v2) hb v3) hb v4) hb v5) hb v6) hb v7)
theorem Wr.put8 (w : World) (b : Nat) (v0 v1 v2 v3 v4 v5 v6 v7 : Value) : Wr [b] w ((((((((w.setCell ⟨b, 0, none⟩ v0).setCell ⟨b, 1, none⟩ v1).setCell ⟨b, 2, none⟩ v2).setCell ⟨b, 3, none⟩ v3).setCell ⟨b, 4, none⟩ v4).setCell ⟨b, 5, none⟩ v5).setCell ⟨b, 6, none⟩ v6).setCell ⟨b, 7, none⟩ v7) := (Wr.setCell (Wr.setCell (Wr.setCell (Wr.setCell (Wr.setCell (Wr.setCell (Wr.setCell (Wr.setCell (Wr.refl [b] w) (List.mem_singleton.2 rfl) v0) (List.mem_singleton.2 rfl) v1) (List.mem_singleton.2 rfl) v2) (List.mem_singleton.2 rfl) v3) (List.mem_singleton.2 rfl) v4) (List.mem_singleton.2 rfl) v5) (List.mem_singleton.2 rfl) v6) (List.mem_singleton.2 rfl) v7)

theorem VRow.put9 {w : World} {b : Nat} {t : TypeId} {a0 a1 a2 a3 a4 a5 a6 a7 a8 : Value} (h : VRow w b t [a0, a1, a2, a3, a4, a5, a6, a7, a8]) (v0 v1 v2 v3 v4 v5 v6 v7 v8 : Value) : VRow (((((((((w.setCell ⟨b, 0, none⟩ v0).setCell ⟨b, 1, none⟩ v1).setCell ⟨b, 2, none⟩ v2).setCell ⟨b, 3, none⟩ v3).setCell ⟨b, 4, none⟩ v4).setCell ⟨b, 5, none⟩ v5).setCell ⟨b, 6, none⟩ v6).setCell ⟨b, 7, none⟩ v7).setCell ⟨b, 8, none⟩ v8) b t [v0, v1, v2, v3, v4, v5, v6, v7, v8] := (VRow.set (VRow.set (VRow.set (VRow.set (VRow.set (VRow.set (VRow.set (VRow.set (VRow.set h 0 v0) 1 v1) 2 v2) 3 v3) 4 v4) 5 v5) 6 v6) 7 v7) 8 v8)
theorem Gr.put9 {w0 w : World} {b : Nat} (h : Gr w0 w) (hb : w0.heap.size ≤ b) (v0 v1 v2 v3 v4 v5 v6 v7 v8 : Value) : Gr w0 (((((((((w.setCell ⟨b, 0, none⟩ v0).setCell ⟨b, 1, none⟩ v1).setCell ⟨b, 2, none⟩ v2).setCell ⟨b, 3, none⟩ v3).setCell ⟨b, 4, none⟩ v4).setCell ⟨b, 5, none⟩ v5).setCell ⟨b, 6, none⟩ v6).setCell ⟨b, 7, none⟩ v7).setCell ⟨b, 8, none⟩ v8) := (Gr.setCell (p := ⟨b, 8, none⟩) (Gr.setCell (p := ⟨b, 7, none⟩) (Gr.setCell (p := ⟨b, 6, none⟩) (Gr.setCell (p := ⟨b, 5, none⟩) (Gr.setCell (p := ⟨b, 4, none⟩) (Gr.setCell (p := ⟨b, 3, none⟩) (Gr.setCell (p := ⟨b, 2, none⟩) (Gr.setCell (p := ⟨b, 1, none⟩) (Gr.setCell (p := ⟨b, 0, none⟩) h hb v0) hb v1) hb v2) hb v3) hb v4) hb v5) hb v6) hb v7) hb v8)
theorem Wr.put9 (w : World) (b : Nat) (v0 v1 v2 v3 v4 v5 v6 v7 v8 : Value) : Wr [b] w (((((((((w.setCell ⟨b, 0, none⟩ v0).setCell ⟨b, 1, none⟩ v1).setCell ⟨b, 2, none⟩ v2).setCell ⟨b, 3, none⟩ v3).setCell ⟨b, 4, none⟩ v4).setCell ⟨b, 5, none⟩ v5).setCell ⟨b, 6, none⟩ v6).setCell ⟨b, 7, none⟩ v7).setCell ⟨b, 8, none⟩ v8) := (Wr.setCell (Wr.setCell (Wr.setCell (Wr.setCell (Wr.setCell (Wr.setCell (Wr.setCell (Wr.setCell (Wr.setCell (Wr.refl [b] w) (List.mem_singleton.2 rfl) v0) (List.mem_singleton.2 rfl) v1) (List.mem_singleton.2 rfl) v2) (List.mem_singleton.2 rfl) v3) (List.mem_singleton.2 rfl) v4) (List.mem_singleton.2 rfl) v5) (List.mem_singleton.2 rfl) v6) (List.mem_singleton.2 rfl) v7) (List.mem_singleton.2 rfl) v8)

end Go.Proofs.YtbfmeiooeaaibaaGreat

namespace Go.Proofs.YtbfmeiooeaaibaaGreat
open Go.RowKit
variable {d : Nat}
set_option linter.unusedVariables false


abbrev GDefinition (d : Nat) := Int × (GExpr d)
def wtDefinition (x : (GDefinition d)) : Nat := wtExpr x.2

theorem rdDefinition_inv {fp : List Nat} {w : World} {cs : Array Value} (q0 : Int) (q10 : Int) (q11 : Int) (q12 : Int) (q13 : Int) (q14 : ByteArray) (q15 : ByteArray) (q16 : List (GE d)) (h : Rd.rd (α := (GDefinition d)) fp w cs.toList (q0, (q10, q11, q12, q13, q14, q15, q16))) :
    ∃ vq16 fq16, cs = #[.int .i64 q0, .int .i64 q10, .int .i64 q11, .int .i64 q12, .int .i64 q13, .string q14, .string q15, vq16] ∧ fp = ([] ++ ([] ++ ([] ++ ([] ++ ([] ++ ([] ++ ([] ++ fq16))))))) ∧ (Lit.int .i64 q0).wf = true ∧ (Lit.int .i64 q10).wf = true ∧ (Lit.int .i64 q11).wf = true ∧ (Lit.int .i64 q12).wf = true ∧ (Lit.int .i64 q13).wf = true ∧ q14.size ≤ maxLen ∧ q15.size ≤ maxLen ∧ SlR fq16 w vq16 q16 := by
  generalize hcs : cs.toList = l at h
  obtain ⟨_, cq1, _, gq1, rfl, rfl, ⟨rfl, rfl, hq0⟩, Nq1⟩ := h
  obtain ⟨vvq16, ffq16, hcN1, hfN1, hq10, hq11, hq12, hq13, hq14, hq15, hq16⟩ := rdExpr_inv (cs := cq1.toArray) q10 q11 q12 q13 q14 q15 q16 (by rw [List.toList_toArray]; exact Nq1)
  have eN1 : cq1 = [.int .i64 q10, .int .i64 q11, .int .i64 q12, .int .i64 q13, .string q14, .string q15, vvq16] := by have := congrArg Array.toList hcN1; simpa using this
  rw [eN1] at hcs
  exact ⟨_, _, Array.toList_inj.1 (by simpa using hcs), (by rw [hfN1]), hq0, hq10, hq11, hq12, hq13, hq14, hq15, hq16⟩

theorem rdDefinition_shape {fp : List Nat} {w : World} {cs : Array Value} {x : (GDefinition d)} (h : Rd.rd (α := (GDefinition d)) fp w cs.toList x) :
    ∃ q0 q10 q11 q12 q13 q14 q15 aq16 lq16 cq16, cs = #[.int .i64 q0, .int .i64 q10, .int .i64 q11, .int .i64 q12, .int .i64 q13, .string q14, .string q15, .slice aq16 lq16 cq16] := by
  obtain ⟨q0, ⟨q10, q11, q12, q13, q14, q15, q16⟩⟩ := x
  obtain ⟨vq16, fq16, rfl, -, -, -, -, -, -, -, -, hq16⟩ := rdDefinition_inv q0 q10 q11 q12 q13 q14 q15 q16 h
  obtain ⟨aq16, cq16, rfl, -, -, -⟩ := hq16.open
  exact ⟨_, _, _, _, _, _, _, _, _, _, rfl⟩

theorem rdDefinition_mk {w : World} (q0 : Int) (q10 : Int) (q11 : Int) (q12 : Int) (q13 : Int) (q14 : ByteArray) (q15 : ByteArray) (q16 : List (GE d)) {vq16 : Value} {fq16 : List Nat} (hq0 : (Lit.int .i64 q0).wf = true) (hq10 : (Lit.int .i64 q10).wf = true) (hq11 : (Lit.int .i64 q11).wf = true) (hq12 : (Lit.int .i64 q12).wf = true) (hq13 : (Lit.int .i64 q13).wf = true) (hq14 : q14.size ≤ maxLen) (hq15 : q15.size ≤ maxLen) (hq16 : SlR fq16 w vq16 q16) :
    Rd.rd (α := (GDefinition d)) (([] ++ ([] ++ ([] ++ ([] ++ ([] ++ ([] ++ ([] ++ fq16)))))))) w [.int .i64 q0, .int .i64 q10, .int .i64 q11, .int .i64 q12, .int .i64 q13, .string q14, .string q15, vq16] (q0, (q10, q11, q12, q13, q14, q15, q16)) := ⟨_, _, _, _, rfl, rfl, ⟨rfl, rfl, hq0⟩, ⟨_, _, _, _, rfl, rfl, ⟨rfl, rfl, hq10⟩, ⟨_, _, _, _, rfl, rfl, ⟨rfl, rfl, hq11⟩, ⟨_, _, _, _, rfl, rfl, ⟨rfl, rfl, hq12⟩, ⟨_, _, _, _, rfl, rfl, ⟨rfl, rfl, hq13⟩, ⟨_, _, _, _, rfl, rfl, ⟨rfl, rfl, hq14⟩, ⟨_, _, _, _, rfl, rfl, ⟨rfl, rfl, hq15⟩, ⟨_, rfl, hq16⟩⟩⟩⟩⟩⟩⟩⟩


/-- The definition at a node: the equation of an occurrence in the node's rule. -/
def defAt (g : GGrammar d) (t : List GNode) (o p : Int) (n : ByteArray) : Option (GDefinition d) :=
  match nth t o with
  | none => none
  | some m => (eqnOf ((lookR g.2 m.2.2.2.2.1).getD zeroR).2.2.2.2.1 (p, n)).map fun e => (o, e)
/-- The definition of an instance. -/
def defOf (g : GGrammar d) (t : List GNode) (x : GInstance) : Option (GDefinition d) :=
  match attrOf g t x with
  | none => none
  | some a => if a.2.2.1 = 3 then none else if a.2.2.1 = 1 then (match nth t (nodeIx t x.1) with | none => none | some n => defAt g t n.2.1 n.2.2.1 x.2) else defAt g t (nodeIx t x.1) 0 x.2
def zeroD : GDefinition d := (0, zeroX)
theorem zeroD_rd (w : World) : Rd.rd (α := GDefinition d) ([] ++ ([] ++ ([] ++ ([] ++ ([] ++ ([] ++ ([] ++ []))))))) w [.int .i64 0, .int .i64 0, .int .i64 0, .int .i64 0, .int .i64 0, .string ByteArray.empty, .string ByteArray.empty, .slice none 0 0] zeroD :=
  rdDefinition_mk _ _ _ _ _ _ _ _ (by decide) (by decide) (by decide) (by decide) (by decide) (by decide) (by decide) (SlR.nil w)

theorem some_of_getD {α : Type} {o : Option α} {z y : α} (h : o.isSome = true) (hy : o.getD z = y) : o = some y := by
  cases o with
  | none => simp at h
  | some a => simp at hy; rw [hy]
theorem none_of_isSome {α : Type} {o : Option α} (h : o.isSome = false) : o = none := by
  cases o with
  | none => rfl
  | some a => simp at h

theorem defOf_none {g : GGrammar d} {t : List GNode} {x : GInstance} (h : attrOf g t x = none) : defOf g t x = none := by unfold defOf; rw [h]
theorem defOf_coll {g : GGrammar d} {t : List GNode} {x : GInstance} {a : GAttribute} (h : attrOf g t x = some a) (hm : a.2.2.1 = 3) : defOf g t x = none := by unfold defOf; rw [h]; simp only; rw [if_pos hm]
theorem defOf_inh {g : GGrammar d} {t : List GNode} {x : GInstance} {a : GAttribute} (h : attrOf g t x = some a) (hm : a.2.2.1 = 1) {n : Nat} (hn : nodeIx t x.1 = n) (hl : n < t.length) : defOf g t x = defAt g t t[n].2.1 t[n].2.2.1 x.2 := by
  unfold defOf
  rw [h]
  simp only
  rw [if_neg (by rw [hm]; decide), if_pos hm, hn, nth_in hl]
theorem defOf_own {g : GGrammar d} {t : List GNode} {x : GInstance} {a : GAttribute} (h : attrOf g t x = some a) (h3 : ¬ a.2.2.1 = 3) (hm : ¬ a.2.2.1 = 1) : defOf g t x = defAt g t (nodeIx t x.1) 0 x.2 := by
  unfold defOf
  rw [h]
  simp only
  rw [if_neg h3, if_neg hm]
theorem attr_ix {g : GGrammar d} {t : List GNode} {x : GInstance} {a : GAttribute} (h : attrOf g t x = some a) : ∃ n : Nat, nodeIx t x.1 = n ∧ n < t.length := by
  have hni : nodeIx t x.1 < t.length ∨ nodeIx t x.1 = -1 := idxOf_lt _ t
  unfold attrOf at h
  split at h
  · cases h
  · refine ⟨(nodeIx t x.1).toNat, by omega, by omega⟩
theorem defAt_out {g : GGrammar d} {t : List GNode} {o p : Int} {n : ByteArray} (h : o < 0 ∨ (t.length : Int) - 1 < o) : defAt g t o p n = none := by unfold defAt; rw [nth_out h]
theorem defAt_in {g : GGrammar d} {t : List GNode} {m : Nat} {p : Int} {n : ByteArray} (h : m < t.length) {y : GRule d} (hy : y = (lookR g.2 t[m].2.2.2.2.1).getD zeroR) : defAt g t (m : Int) p n = (eqnOf y.2.2.2.2.1 (p, n)).map fun e => ((m : Int), e) := by unfold defAt; rw [nth_in h, hy]
theorem look_wt {g : GGrammar d} (h : wtGrammar g ≤ 1048576) (n : ByteArray) : wtRule ((lookR g.2 n).getD zeroR) ≤ 1048576 := by
  cases hl : lookR g.2 n with
  | none =>
    have h0 : wtRule (zeroR : GRule d) = 0 := rfl
    show wtRule zeroR ≤ _
    omega
  | some r =>
    have hm : r ∈ g.2 := List.mem_of_find?_eq_some hl
    obtain ⟨i, hi, rfl⟩ := List.mem_iff_getElem.1 hm
    have h1 : wtSymbolS g.1 + wtRuleS g.2 ≤ 1048576 := h
    have h2 : wtRule g.2[i] ≤ wtRuleS g.2 := wtL_at wtRule g.2 hi
    show wtRule g.2[i] ≤ _
    omega

theorem sameOn_boxd {A : World} {o o' : Obj} {x : Ext} {fp : List Nat} (h : ∀ c ∈ fp, c ≠ A.heap.size) : SameOn fp (((A.alloc o).drew).ext x) (((A.alloc o').drew).ext x) := fun c hc => by
  have := heap_own (o := o) (o' := o') x (h c hc)
  simpa [World.ext, World.drew] using this

/-- A slot points to a box that holds a datum. -/
def BoxAt {α : Type} [Rd α] (W : World) (y : α) (s : Value) (wr : World) : Prop :=
  ∃ b cs fr, s = .pointer (some ⟨b, 0, none⟩) ∧ Gr W wr ∧ (∀ j v, cs[j]? = some v → wr.cell? ⟨b, j, none⟩ = some v) ∧ Rd.rd fr wr cs y ∧ W.heap.size ≤ b
/-- .. and a slot holds its number. -/
def AtBox (W : World) (T : TypeId) (i p : Int) (n : ByteArray) (s10 s11 : Value) (wr : World) : Prop :=
  ∃ (o : Int) (b : Nat), s10 = .int .i64 o ∧ Hid (o = i) ∧ s11 = .pointer (some ⟨b, 0, none⟩) ∧ W.heap.size ≤ b ∧ Gr W wr ∧ VRow wr b T [.int .i64 p, .string n]
end Go.Proofs.YtbfmeiooeaaibaaGreat
