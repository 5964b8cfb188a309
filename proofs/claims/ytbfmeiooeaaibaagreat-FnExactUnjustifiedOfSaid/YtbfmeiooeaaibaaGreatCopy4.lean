/- An expression, and a symbol, in new memory: the reference's. No condition. -/
import Derived.Test.YtbfmeiooeaaibaaGreatTreeB
import Derived.Test.YtbfmeiooeaaibaaGreatAppendR
import Derived.Test.YtbfmeiooeaaibaaGreatRegU
namespace Go.Proofs.YtbfmeiooeaaibaaGreat
open Go.RowKit
variable {d : Nat}
set_option linter.unusedVariables false

theorem Tryz.infoExprC : (Tryz.prog.info? 87).map (fun i => (i.zero, i.size, i.bytes)) = some (some (.agg #[.int .i64 0, .int .i64 0, .int .i64 0, .int .i64 0, .string ByteArray.empty, .string ByteArray.empty, .slice none 0 0]), 7, 88) := by kernel_rfl

/-- What is appended to a row of one's own is new: it does not lead into the row. -/
theorem own_apart {α : Type} [Rd α] {w0 w : World} {e : TypeId} {v : Value} {fps : List (List Nat)} {xs : List α} (h : OwnR w0 e w v fps xs) {fq : List Nat} (hf : Fresh w fq) : ∀ b, v.ownBlock = some b → b ∉ [fq].flatten := by
  intro b hb hm
  have h1 := (h.base b hb).2
  have h2 := hf.2 b (by simpa using hm)
  omega

theorem fresh_snoc {w0 w : World} {fps : List (List Nat)} {fq : List Nat} (h : Fresh w0 fps.flatten) (hl : ∀ b ∈ fps.flatten, b < w.heap.size) (hw : w0.heap.size ≤ w.heap.size) (k : Fresh w fq) : Fresh w0 (fps ++ [fq]).flatten := by
  have := h.append hw hl k
  simpa using this

set_option maxRecDepth 10000 in
set_option maxHeartbeats 4000000 in
theorem l4Copy_of (hE : ∀ (fp : List Nat) (cs : Array Value) (x : GE d) (w : World) (hx : Rd.rd fp w cs.toList x) (hl : wtE d x ≤ 1048576), Calls Tryz.prog 119 #[.agg cs] w (Made w x))
    (fp : List Nat) (cs : Array Value) (x : GExpr d) (w : World) (hx : Rd.rd fp w cs.toList x) (hl : wtExpr x ≤ 1048576) :
    Calls Tryz.prog 119 #[.agg cs] w (Made w x) := by
  obtain ⟨q0, q1, q2, q3, q4, q5, q6⟩ := x
  obtain ⟨vq6, fq6, rfl, -, hq0, hq1, hq2, hq3, hq4, hq5, hq6⟩ := rdExpr_inv q0 q1 q2 q3 q4 q5 q6 hx
  obtain ⟨aq6, kq6, rfl, oq61, oq62, oq63⟩ := hq6.open
  have hw6 : wtExprS q6 ≤ 1048576 := by
    have h : q4.size + q5.size + wtExprS q6 ≤ 1048576 := hl
    omega
  have hll : q6.length ≤ 1048576 := Nat.le_trans (wtL_len (wtE _) q6) hw6
  have HW := Lib.hid hw6
  have H0 := Lib.hid (And.intro hq0 (And.intro hq1 (And.intro hq2 (And.intro hq3 (And.intro hq4 hq5)))))
  obtain ⟨i0, hi, hz0, hz1, hz2⟩ := info_parts Tryz.infoExprC
  have HZ := Lib.hid (And.intro hi (And.intro hz0 (And.intro hz1 hz2)))
  clear hi hz0 hz1 hz2 hx hl hw6 hq0 hq1 hq2 hq3 hq4 hq5
  go_enter Tryz.func119, Tryz.ntmps119
  go_wp2_with fail
  generalize hB : ((w.alloc (.cells #[.int .i64 q0, .int .i64 q1, .int .i64 q2, .int .i64 q3, .string q4, .string q5, .slice aq6 q6.length kq6] 87)).alloc (.cells #[.int .i64 0, .int .i64 0, .int .i64 0, .int .i64 0, .string ⟨#[]⟩, .string ⟨#[]⟩, .slice none 0 0] 87)) = B
  have gB : Gr w B := by rw [← hB]; exact (by repeat (first | exact Gr.refl _ | apply Gr.ext | apply Gr.alloc | apply Gr.drew))
  have bB0 : ∀ w' : World, Gr B w' → w'.cell? ⟨w.heap.size, 0, none⟩ = some (.int .i64 q0) := fun w' hg => hg.keep (by rw [← hB]; repeat (first | exact box_cell (by first | rfl | (simp; done) | (simp; omega)) rfl | refine Gr.keep (Gr.alloc (Gr.refl _) _) ?_ | refine Gr.keep (Gr.ext (Gr.refl _) _) ?_ | refine Gr.keep (Gr.drew (Gr.refl _)) ?_))
  have bB1 : ∀ w' : World, Gr B w' → w'.cell? ⟨w.heap.size, 1, none⟩ = some (.int .i64 q1) := fun w' hg => hg.keep (by rw [← hB]; repeat (first | exact box_cell (by first | rfl | (simp; done) | (simp; omega)) rfl | refine Gr.keep (Gr.alloc (Gr.refl _) _) ?_ | refine Gr.keep (Gr.ext (Gr.refl _) _) ?_ | refine Gr.keep (Gr.drew (Gr.refl _)) ?_))
  have bB2 : ∀ w' : World, Gr B w' → w'.cell? ⟨w.heap.size, 2, none⟩ = some (.int .i64 q2) := fun w' hg => hg.keep (by rw [← hB]; repeat (first | exact box_cell (by first | rfl | (simp; done) | (simp; omega)) rfl | refine Gr.keep (Gr.alloc (Gr.refl _) _) ?_ | refine Gr.keep (Gr.ext (Gr.refl _) _) ?_ | refine Gr.keep (Gr.drew (Gr.refl _)) ?_))
  have bB3 : ∀ w' : World, Gr B w' → w'.cell? ⟨w.heap.size, 3, none⟩ = some (.int .i64 q3) := fun w' hg => hg.keep (by rw [← hB]; repeat (first | exact box_cell (by first | rfl | (simp; done) | (simp; omega)) rfl | refine Gr.keep (Gr.alloc (Gr.refl _) _) ?_ | refine Gr.keep (Gr.ext (Gr.refl _) _) ?_ | refine Gr.keep (Gr.drew (Gr.refl _)) ?_))
  have bB4 : ∀ w' : World, Gr B w' → w'.cell? ⟨w.heap.size, 4, none⟩ = some (.string q4) := fun w' hg => hg.keep (by rw [← hB]; repeat (first | exact box_cell (by first | rfl | (simp; done) | (simp; omega)) rfl | refine Gr.keep (Gr.alloc (Gr.refl _) _) ?_ | refine Gr.keep (Gr.ext (Gr.refl _) _) ?_ | refine Gr.keep (Gr.drew (Gr.refl _)) ?_))
  have bB5 : ∀ w' : World, Gr B w' → w'.cell? ⟨w.heap.size, 5, none⟩ = some (.string q5) := fun w' hg => hg.keep (by rw [← hB]; repeat (first | exact box_cell (by first | rfl | (simp; done) | (simp; omega)) rfl | refine Gr.keep (Gr.alloc (Gr.refl _) _) ?_ | refine Gr.keep (Gr.ext (Gr.refl _) _) ?_ | refine Gr.keep (Gr.drew (Gr.refl _)) ?_))
  have bB6 : ∀ w' : World, Gr B w' → w'.cell? ⟨w.heap.size, 6, none⟩ = some (.slice aq6 q6.length kq6) := fun w' hg => hg.keep (by rw [← hB]; repeat (first | exact box_cell (by first | rfl | (simp; done) | (simp; omega)) rfl | refine Gr.keep (Gr.alloc (Gr.refl _) _) ?_ | refine Gr.keep (Gr.ext (Gr.refl _) _) ?_ | refine Gr.keep (Gr.drew (Gr.refl _)) ?_))
  have sB : B.heap.size = w.heap.size + 2 := by rw [← hB]; first | (simp; done) | (simp; omega)
  have EB := Lib.hid hB
  clear hB
  go_loopw [4, 3] (fun s4 s3 wr => ∃ (k : Nat) (fps : List (List Nat)), k ≤ q6.length ∧ Hid (Fresh B fps.flatten) ∧ Gr B wr ∧ OwnR B 87 wr s3 fps (q6.take k) ∧ s4 = .int .i64 k) (fun s4 _ _ => q6.length - (intOf s4).toNat)
  case atStart => exact ⟨0, [], by omega, Lib.hid (by simpa using Fresh.nil B), (by repeat (first | exact Gr.refl _ | apply Gr.ext | apply Gr.alloc | apply Gr.drew)), OwnR.lit0 (α := GE d) (w0 := B) (w := B) 87 (Nat.le_refl _) (by omega), rfl⟩
  case round =>
    obtain ⟨k, fps, hk, HF, hg, hown, rfl⟩ := hrel
    rename World => W1
    have HG := Lib.hid hg
    have HO := Lib.hid hown
    obtain ⟨ra, rc, hform⟩ := hown.form
    have y6 := bB6 _ hg
    have hLl : (q6.take k).length = k := by simp; omega
    rw [hLl] at hform
    have HL := Lib.hid hLl
    have zx := blk y6
    have hgw := gB.trans hg
    have HGW := Lib.hid hgw
    subst hform
    clear hg hown hLl hgw
    by_cases hlt : k < q6.length
    · obtain ⟨d1, rfl⟩ : ∃ e, d = e + 1 := by
        cases d with
        | zero => exact PEmpty.elim (q6[k])
        | succ e => exact ⟨e, rfl⟩
      have hwk : wtE (d1 + 1) q6[k] ≤ 1048576 := Nat.le_trans (wtL_at (wtE _) q6 hlt) HW.out
      have HWK := Lib.hid hwk
      obtain ⟨b, off, rfl, hb⟩ := oq63 k hlt
      obtain ⟨csp, fep, hcp, hrp, -⟩ := hq6.at hlt
      obtain ⟨yp, hyp⟩ : ∃ y, y = q6[k] := ⟨_, rfl⟩
      rw [← hyp] at hrp
      have HYp := Lib.hid hyp
      have HRp := Lib.hid hrp
      obtain ⟨p0, p1, p2, p3, p4, p5, p6⟩ := yp
      obtain ⟨vp6, fp6, hcsp, -, hp0, hp1, hp2, hp3, hp4, hp5, hp6⟩ := rdExpr_inv (cs := csp.toArray) p0 p1 p2 p3 p4 p5 p6 (show Rd.rd (α := GExpr d1) fep w csp.toArray.toList _ from hrp)
      obtain rfl : csp = [.int .i64 p0, .int .i64 p1, .int .i64 p2, .int .i64 p3, .string p4, .string p5, vp6] := by have := congrArg Array.toList hcsp; simpa using this
      obtain ⟨ap6, kp6, rfl, -, -, -⟩ := hp6.open
      have z0 := HGW.out.keep (show w.cell? ⟨b, off + k * 7, none⟩ = some (.int .i64 p0) from hcp 0 _ rfl)
      have z1 := HGW.out.keep (show w.cell? ⟨b, off + k * 7 + 1, none⟩ = some (.int .i64 p1) from hcp 1 _ rfl)
      have z2 := HGW.out.keep (show w.cell? ⟨b, off + k * 7 + 2, none⟩ = some (.int .i64 p2) from hcp 2 _ rfl)
      have z3 := HGW.out.keep (show w.cell? ⟨b, off + k * 7 + 3, none⟩ = some (.int .i64 p3) from hcp 3 _ rfl)
      have z4 := HGW.out.keep (show w.cell? ⟨b, off + k * 7 + 4, none⟩ = some (.string p4) from hcp 4 _ rfl)
      have z5 := HGW.out.keep (show w.cell? ⟨b, off + k * 7 + 5, none⟩ = some (.string p5) from hcp 5 _ rfl)
      have z6 := HGW.out.keep (show w.cell? ⟨b, off + k * 7 + 6, none⟩ = some (.slice ap6 p6.length kp6) from hcp 6 _ rfl)
      have zb := blk z0
      clear hcsp hcp hrp hyp oq63 hp0 hp1 hp2 hp3 hp4 hp5 hp6 hwk
      go_wp2_with fail
      refine (hE _ _ q6[k] _ (Rd.gr (by rw [← HYp.out]; exact HRp.out) (HGW.out.trans (by repeat (first | exact Gr.refl _ | apply Gr.ext | apply Gr.alloc | apply Gr.drew)))) HWK.out).mono ?_
      rintro e w1 ⟨ds, fq, rfl, hs, hf, y, rfl⟩
      have HS := Lib.hid hs
      have HF1 := Lib.hid hf
      obtain ⟨r0, r1, r2, r3, r4, r5, ar6, lr6, kr6, rfl⟩ := rdExpr_shape (show Rd.rd (α := GExpr d1) fq _ ds.toList _ from hs)
      clear hs hf
      go_wp2_with (first | (at_builtin; refine wpList_append_R (α := GE (d1 + 1)) (w0 := B) (HG.out.trans (by repeat (first | exact Gr.refl _ | apply Gr.ext | apply Gr.alloc | apply Gr.drew))) rfl _ _ 85 rfl 87 i0 (.agg #[.int .i64 0, .int .i64 0, .int .i64 0, .int .i64 0, .string ByteArray.empty, .string ByteArray.empty, .slice none 0 0]) 88 Tryz.underlying85 HZ.out.1 HZ.out.2.1 HZ.out.2.2.1 HZ.out.2.2.2 rfl _ fps _ (by rfl) (HO.out.gr (by repeat (first | exact Gr.refl _ | apply Gr.ext | apply Gr.alloc | apply Gr.drew))) _ [fq] [q6[k]] (by rfl) (SrcR.one (by simp) (Rd.gr HS.out (by repeat (first | exact Gr.refl _ | apply Gr.ext | apply Gr.alloc | apply Gr.drew)))) (own_apart HO.out HF1.out) (by rw [HL.out]; unfold maxLen; simp; omega) (by rw [HL.out]; simp; omega) ?_; intro v3 w3 h1 h2 h3 h4; replace h1 := Lib.hid h1; replace h4 := Lib.hid h4; clear h2 h3))
      refine ⟨⟨k + 1, fps ++ [fq], by omega, Lib.hid (fresh_snoc HF.out (OwnR.lt HO.out) (HG.out.size) HF1.out), h4.out, ?_, by go_num⟩, by simp [intOf]; omega⟩
      have e : q6.take (k + 1) = q6.take k ++ [q6[k]] := List.take_succ_eq_append_getElem hlt
      rw [e]; exact h1.out
    · have hk2 : k = q6.length := by omega
      subst hk2
      obtain ⟨y, rfl⟩ := HG.out
      obtain ⟨fr, hs, hfr⟩ := HO.out.fresh (by rw [HL.out]; unfold reachLen; omega) HF.out
      rw [List.take_length] at hs
      have HS := Lib.hid hs
      have HFR := Lib.hid hfr
      clear hs hfr
      obtain rfl := EB.out
      obtain ⟨h0, h1, h2, h3, h4, h5⟩ := H0.out
      go_wp2_with fail
      exact bodyPost_ret (v := .agg #[.int .i64 q0, .int .i64 q1, .int .i64 q2, .int .i64 q3, .string q4, .string q5, .slice ra q6.length rc])
        (by simp [results, Tryz.results119, go_sem]) rfl ⟨_, _, rfl, rdExpr_mk q0 q1 q2 q3 q4 q5 q6 h0 h1 h2 h3 h4 h5 (SlR.moved HS.out HFR.out (by repeat (first | exact Gr.refl _ | apply Gr.ext | apply Gr.alloc | apply Gr.drew)) (by simp)), HFR.out.of_le (by simp <;> omega), (by repeat (first | exact Gr.refl _ | apply Gr.ext | apply Gr.alloc | apply Gr.drew))⟩

theorem l4Copy_all : (d : Nat) → ∀ (fp : List Nat) (cs : Array Value) (x : GE d) (w : World) (hx : Rd.rd fp w cs.toList x) (hl : wtE d x ≤ 1048576), Calls Tryz.prog 119 #[.agg cs] w (Made w x)
  | 0 => by intro fp cs x; exact PEmpty.elim x
  | d + 1 => l4Copy_of (l4Copy_all d)
theorem l4Copy_any (fp : List Nat) (cs : Array Value) (x : GExpr d) (w : World) (hx : Rd.rd fp w cs.toList x) (hl : wtExpr x ≤ 1048576) :
    Calls Tryz.prog 119 #[.agg cs] w (Made w x) := l4Copy_of (l4Copy_all d) fp cs x w hx hl
end Go.Proofs.YtbfmeiooeaaibaaGreat
