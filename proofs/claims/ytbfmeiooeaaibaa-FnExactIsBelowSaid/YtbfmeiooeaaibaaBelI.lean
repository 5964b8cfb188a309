/- IsBelow of the program. No condition. -/
import Derived.Test.YtbfmeiooeaaibaaInsS
import Derived.Test.YtbfmeiooeaaibaaAttrI
namespace Go.Proofs.Ytbfmeiooeaaibaa
open Go.RowKit
variable {d : Nat}
set_option linter.unusedVariables false

/-- Are two values of an instance in order? -/
def okB (c : Bool) (a b : Int) : Bool := if c then decide (bits .andNot .i64 a b = 0) else decide (a = b)
def belowP (g : GGrammar d) (t : List GNode) (xs ys : List Int) : Prop :=
  (xs.length = (instsOf g t).length ∧ ys.length = (instsOf g t).length) ∧ ∀ i (h : i < (instsOf g t).length) (h1 : i < xs.length) (h2 : i < ys.length), okB ((attrOf g t (instsOf g t)[i]).getD zeroA).2.2.2 xs[i] ys[i] = true
noncomputable def belowB (g : GGrammar d) (t : List GNode) (xs ys : List Int) : Bool := @decide (belowP g t xs ys) (Classical.propDecidable _)
theorem belowB_yes {g : GGrammar d} {t : List GNode} {xs ys : List Int} (h : belowP g t xs ys) : belowB g t xs ys = true := by unfold belowB; exact @decide_eq_true _ (Classical.propDecidable _) h
theorem belowB_no {g : GGrammar d} {t : List GNode} {xs ys : List Int} (h : ¬ belowP g t xs ys) : belowB g t xs ys = false := by unfold belowB; exact @decide_eq_false _ (Classical.propDecidable _) h
theorem belowP_of {g : GGrammar d} {t : List GNode} {xs ys : List Int} {I : List GInstance} (hI : I = instsOf g t) (h0 : xs.length = I.length ∧ ys.length = I.length) (h : ∀ i (h : i < I.length) (h1 : i < xs.length) (h2 : i < ys.length), okB ((attrOf g t I[i]).getD zeroA).2.2.2 xs[i] ys[i] = true) : belowP g t xs ys := by subst hI; exact ⟨h0, h⟩
theorem belowP_at {g : GGrammar d} {t : List GNode} {xs ys : List Int} {I : List GInstance} (hI : I = instsOf g t) (h : belowP g t xs ys) {i : Nat} (hi : i < I.length) (h1 : i < xs.length) (h2 : i < ys.length) : okB ((attrOf g t I[i]).getD zeroA).2.2.2 xs[i] ys[i] = true := by subst hI; exact h.2 i hi h1 h2

set_option maxRecDepth 100000 in
set_option maxHeartbeats 16000000 in
theorem implBelow_any {fg : List Nat} {cg : Array Value} (g : (GGrammar d)) {ft : List Nat} {ct : Array Value} (t : GTree) {fx : List Nat} {vx : Value} (x : List Int) {fy : List Nat} {vy : Value} (y : List Int) (w : World) (hg : Rd.rd fg w cg.toList g) (ht : Rd.rd ft w ct.toList t) (hx : SlR fx w vx x) (hy : SlR fy w vy y) (hl : wtGrammar g ≤ 1048576) :
    Calls Try.prog 10 #[.agg cg, .agg ct, vx, vy] w fun e w' => e = .returned (.bool (belowB g t x y)) ∧ Gr w w' := by
  have HWT := Lib.hid hl
  clear hl
  have HG := Lib.hid hg
  obtain ⟨g0, g1⟩ := g
  obtain ⟨vg0, fg0, vg1, fg1, rfl, hfpg, hg0, hg1⟩ := rdGrammar_inv g0 g1 hg
  have FPg := Lib.hid hfpg
  clear hfpg
  obtain ⟨ag0, kg0, rfl, og01, og02, og03⟩ := hg0.open
  obtain ⟨ag1, kg1, rfl, og11, og12, og13⟩ := hg1.open
  clear hg
  have HT := Lib.hid ht
  obtain ⟨t0, rfl⟩ : ∃ y, y = t := ⟨t, rfl⟩
  obtain ⟨vt0, ft0, rfl, hfpt, ht0⟩ := rdTree_inv t0 ht
  have FPt := Lib.hid hfpt
  clear hfpt
  obtain ⟨at0, kt0, rfl, ot01, ot02, ot03⟩ := ht0.open
  clear ht
  have HX := Lib.hid hx
  obtain ⟨ax, kx, rfl, ox1, ox2, ox3⟩ := hx.open
  have HY := Lib.hid hy
  obtain ⟨ay, ky, rfl, oy1, oy2, oy3⟩ := hy.open
  obtain ⟨I, hI⟩ : ∃ I, I = instsOf (g0, g1) t0 := ⟨_, rfl⟩
  have HI := Lib.hid hI
  by_cases hn : x.length = I.length ∧ y.length = I.length
  · obtain ⟨hn1, hn2⟩ := hn
    have HN := Lib.hid (And.intro hn1 hn2)
    have b1 : ((x.length : Int) != (I.length : Int)) = false := by simp [hn1]
    have b2 : ((y.length : Int) != (I.length : Int)) = false := by simp [hn2]
    clear hI hn1 hn2
    go_enter Try.func10, Try.ntmps10
    go_wp2_with fail
    refine (implInsts_any (g0, g1) t0 _ (Rd.gr HG.out (by repeat (first | exact Gr.refl _ | apply Gr.ext | apply Gr.alloc | apply Gr.drew))) (Rd.gr HT.out (by repeat (first | exact Gr.refl _ | apply Gr.ext | apply Gr.alloc | apply Gr.drew))) HWT.out).mono ?_
    rintro e w' ⟨vI, fI, rfl, sI, -, x1, rfl⟩
    rw [← HI.out] at sI
    obtain ⟨aI, kI, rfl, oI1, oI2, oI3⟩ := sI.open
    go_wp2_with fail
    have HSI := Lib.hid sI
    generalize hB : ((((w.alloc (.cells #[.slice ag0 g0.length kg0, .slice ag1 g1.length kg1] 36)).alloc (.cells #[.slice at0 t0.length kt0] 40))).ext x1) = B
    have gB : Gr w B := by rw [← hB]; exact (by repeat (first | exact Gr.refl _ | apply Gr.ext | apply Gr.alloc | apply Gr.drew))
    have bB0 : ∀ w' : World, Gr B w' → w'.cell? ⟨w.heap.size, 0, none⟩ = some (.slice ag0 g0.length kg0) := fun w' hg => hg.keep (by rw [← hB]; repeat (first | ((with_reducible refine box_cell ?_ ?_) <;> first | omega | (simp; done) | (simp; omega) | rfl) | (with_reducible refine Gr.keep (Gr.alloc (Gr.refl _) _) ?_) | (with_reducible refine Gr.keep (Gr.ext (Gr.refl _) _) ?_) | (with_reducible refine Gr.keep (Gr.drew (Gr.refl _)) ?_)))
    have bB1 : ∀ w' : World, Gr B w' → w'.cell? ⟨w.heap.size, 1, none⟩ = some (.slice ag1 g1.length kg1) := fun w' hg => hg.keep (by rw [← hB]; repeat (first | ((with_reducible refine box_cell ?_ ?_) <;> first | omega | (simp; done) | (simp; omega) | rfl) | (with_reducible refine Gr.keep (Gr.alloc (Gr.refl _) _) ?_) | (with_reducible refine Gr.keep (Gr.ext (Gr.refl _) _) ?_) | (with_reducible refine Gr.keep (Gr.drew (Gr.refl _)) ?_)))
    have bB2 : ∀ w' : World, Gr B w' → w'.cell? ⟨w.heap.size + 1, 0, none⟩ = some (.slice at0 t0.length kt0) := fun w' hg => hg.keep (by rw [← hB]; repeat (first | ((with_reducible refine box_cell ?_ ?_) <;> first | omega | (simp; done) | (simp; omega) | rfl) | (with_reducible refine Gr.keep (Gr.alloc (Gr.refl _) _) ?_) | (with_reducible refine Gr.keep (Gr.ext (Gr.refl _) _) ?_) | (with_reducible refine Gr.keep (Gr.drew (Gr.refl _)) ?_)))
    have jI : SlR fI B (.slice aI I.length kI) I := by rw [← hB]; exact HSI.out
    have sB : B.heap.size = w.heap.size + 2 + x1.objs.size := by rw [← hB]; first | (simp; done) | (simp; omega)
    have EB := Lib.hid hB
    clear hB
    clear sI
    go_loopw [31] (fun s31 wr => ∃ k : Nat, k ≤ I.length ∧ Hid (∀ i (h : i < I.length) (h1 : i < x.length) (h2 : i < y.length), i < k → okB ((attrOf (g0, g1) t0 I[i]).getD zeroA).2.2.2 x[i] y[i] = true) ∧ Gr B wr ∧ s31 = .int .i64 k) (fun s31 _ => I.length - (intOf s31).toNat)
    case atStart => exact ⟨0, by omega, Lib.hid (by omega), Gr.refl _, rfl⟩
    case round =>
      obtain ⟨k, hk, HK, hg, rfl⟩ := hrel
      rename World => W1
      have HGR := Lib.hid hg
      have y0 := bB0 _ hg
      have y1 := bB1 _ hg
      have y2 := bB2 _ hg
      have zb0 := blk y0
      have zb1 := blk y2
      have hgw := gB.trans hg
      have HGW := Lib.hid hgw
      clear hg hgw
      by_cases hlt : k < I.length
      · have hsI := jI.gr HGR.out
        have hkx : k < x.length := by have := HN.out.1; omega
        have hky : k < y.length := by have := HN.out.2; omega
        obtain ⟨bx, ox, rfl, hbx⟩ := ox3 k hkx
        obtain ⟨by_, oy, rfl, hby⟩ := oy3 k hky
        have cx := HGW.out.keep (hx.int_at hkx).1
        have cy := HGW.out.keep (hy.int_at hky).1
        have zcx := blk cx
        have zcy := blk cy
        obtain ⟨bq, offq, rfl, hbbq⟩ := oI3 k hlt
        obtain ⟨csq, feq, hcq, hrq, -⟩ := hsI.at hlt
        obtain ⟨yq, hyq⟩ : ∃ y, y = I[k] := ⟨_, rfl⟩
        rw [← hyq] at hrq
        have HYq := Lib.hid hyq
        have HRq := Lib.hid hrq
        obtain ⟨q0, q1⟩ := yq
        obtain ⟨hcsq, -, hq0, hq1⟩ := rdInstance_inv (cs := csq.toArray) q0 q1 (by simpa using hrq)
        obtain rfl : csq = [.int .i64 q0, .string q1] := by have := congrArg Array.toList hcsq; simpa using this
        have qz0 : W1.cell? ⟨bq, offq + k * 2, none⟩ = some (.int .i64 q0) := by simpa [Rd.n] using hcq 0 _ rfl
        have qz1 : W1.cell? ⟨bq, offq + k * 2 + 1, none⟩ = some (.string q1) := hcq 1 _ rfl
        have qzb := blk qz0
        clear hcsq hcq hrq hyq
        have HRI := Lib.hid HRq.out
        go_wp2_with fail
        refine (implAttr_any (g0, g1) t0 (q0, q1) _ (Rd.gr HG.out (HGW.out.trans (by repeat (first | exact Gr.refl _ | apply Gr.ext | apply Gr.alloc | apply Gr.drew)))) (Rd.gr HT.out (HGW.out.trans (by repeat (first | exact Gr.refl _ | apply Gr.ext | apply Gr.alloc | apply Gr.drew)))) (Rd.gr HRq.out (by repeat (first | exact Gr.refl _ | apply Gr.ext | apply Gr.alloc | apply Gr.drew)))).mono ?_
        rintro e w' ⟨es, fq, rfl, hr, -, x2, rfl⟩
        obtain ⟨yr, hyr⟩ : ∃ y, y = (attrOf (g0, g1) t0 (q0, q1)).getD zeroA := ⟨_, rfl⟩; have hr1r := hr; change Rd.rd fq _ es.toList ((attrOf (g0, g1) t0 (q0, q1)).getD zeroA) at hr1r; rw [← hyr] at hr1r; have HYr := Lib.hid hyr; have HRr := Lib.hid hr1r; obtain ⟨r0, r1, r2, r3⟩ := yr; obtain ⟨rfl, hfqr, hr0, hr1, hr2⟩ := rdAttribute_inv r0 r1 r2 r3 hr1r; have FQr := Lib.hid hfqr; clear hfqr; clear hr hr1r hyr; obtain ⟨bb, hbb⟩ : ∃ b : Bool, b = (attrOf (g0, g1) t0 (q0, q1)).isSome := ⟨_, rfl⟩; rw [← hbb]; have Hbb := Lib.hid hbb; clear hbb
        have i0 : (0 : Int) ≤ (k : Int) := by omega
        have i1 : (k : Int) < (x.length : Int) := by omega
        have i2 : (k : Int) < (y.length : Int) := by omega
        cases r3 with
        | true =>
          by_cases he : bits BinOp.andNot .i64 x[k] y[k] = 0
          · skip
            have HE := Lib.hid he
            go_wp2_with fail
            refine wp_region_grown (by kernel_rfl) (by kernel_rfl) ?_
            repeat (go_big_quiet_step (fail))
            refine wpQuiet_nil ?_
            intro _ hw'
            obtain ⟨nx, hw''⟩ := hw'
            subst hw''
            go_wp2_with fail
            refine ⟨⟨k + 1, by omega, Lib.hid fun i hi h1 h2 hik => ?_, HGR.out.trans (by repeat (first | exact Gr.refl _ | apply Gr.ext | apply Gr.alloc | apply Gr.drew)), by go_num⟩, by simp [intOf]; omega⟩
            by_cases hik2 : i < k
            · exact HK.out i hi h1 h2 hik2
            · obtain rfl : i = k := by omega
              rw [← HYq.out, ← HYr.out]
              exact decide_eq_true HE.out
          · have hbb : (bits BinOp.andNot .i64 x[k] y[k] != 0) = true := bne_iff_ne.2 he
            have HE := Lib.hid he
            go_wp2_with fail
            refine wp_region_grown (by kernel_rfl) (by kernel_rfl) ?_
            repeat (go_big_quiet_step (fail))
            refine wpQuiet_nil ?_
            intro _ hw'
            obtain ⟨nx, hw''⟩ := hw'
            subst hw''
            go_wp2_with fail
            go_ret
            refine ⟨ret_bool (belowB_no fun h => HE.out ?_).symm, HGW.out.trans (by repeat (first | exact Gr.refl _ | apply Gr.ext | apply Gr.alloc | apply Gr.drew))⟩
            have h := belowP_at HI.out h hlt hkx hky
            rw [← HYq.out, ← HYr.out] at h
            exact of_decide_eq_true h
        | false =>
          by_cases he : x[k] = y[k]
          · skip
            have HE := Lib.hid he
            go_wp2_with fail
            refine wp_region_grown (by kernel_rfl) (by kernel_rfl) ?_
            repeat (go_big_quiet_step (fail))
            refine wpQuiet_nil ?_
            intro _ hw'
            obtain ⟨nx, hw''⟩ := hw'
            subst hw''
            go_wp2_with fail
            refine ⟨⟨k + 1, by omega, Lib.hid fun i hi h1 h2 hik => ?_, HGR.out.trans (by repeat (first | exact Gr.refl _ | apply Gr.ext | apply Gr.alloc | apply Gr.drew)), by go_num⟩, by simp [intOf]; omega⟩
            by_cases hik2 : i < k
            · exact HK.out i hi h1 h2 hik2
            · obtain rfl : i = k := by omega
              rw [← HYq.out, ← HYr.out]
              exact decide_eq_true HE.out
          · skip
            have HE := Lib.hid he
            go_wp2_with fail
            refine wp_region_grown (by kernel_rfl) (by kernel_rfl) ?_
            repeat (go_big_quiet_step (fail))
            refine wpQuiet_nil ?_
            intro _ hw'
            obtain ⟨nx, hw''⟩ := hw'
            subst hw''
            go_wp2_with fail
            go_ret
            refine ⟨ret_bool (belowB_no fun h => HE.out ?_).symm, HGW.out.trans (by repeat (first | exact Gr.refl _ | apply Gr.ext | apply Gr.alloc | apply Gr.drew))⟩
            have h := belowP_at HI.out h hlt hkx hky
            rw [← HYq.out, ← HYr.out] at h
            exact of_decide_eq_true h
      · have HKK := Lib.hid (belowP_of HI.out HN.out fun i hi h1 h2 => HK.out i hi h1 h2 (by omega))
        go_wp2_with fail
        go_ret
        exact ⟨ret_bool (belowB_yes HKK.out).symm, HGW.out.trans (by repeat (first | exact Gr.refl _ | apply Gr.ext | apply Gr.alloc | apply Gr.drew))⟩
  · have HNN := Lib.hid hn
    clear hI
    have hno : belowB (g0, g1) t0 x y = false := belowB_no fun h => HNN.out (by rw [HI.out]; exact h.1)
    have HNO := Lib.hid hno
    clear hno hn
    by_cases hn1 : x.length = I.length
    · have b1 : ((x.length : Int) != (I.length : Int)) = false := by simp [hn1]
      have hn2 : y.length ≠ I.length := fun e => HNN.out ⟨hn1, e⟩
      have b2 : ((y.length : Int) != (I.length : Int)) = true := by simp; omega
      clear hn1 hn2
      go_enter Try.func10, Try.ntmps10
      go_wp2_with fail
      refine (implInsts_any (g0, g1) t0 _ (Rd.gr HG.out (by repeat (first | exact Gr.refl _ | apply Gr.ext | apply Gr.alloc | apply Gr.drew))) (Rd.gr HT.out (by repeat (first | exact Gr.refl _ | apply Gr.ext | apply Gr.alloc | apply Gr.drew))) HWT.out).mono ?_
      rintro e w' ⟨vI, fI, rfl, sI, -, x1, rfl⟩
      rw [← HI.out] at sI
      obtain ⟨aI, kI, rfl, oI1, oI2, oI3⟩ := sI.open
      clear sI
      go_wp2_with fail
      go_ret
      exact ⟨ret_bool HNO.out.symm, (by repeat (first | exact Gr.refl _ | apply Gr.ext | apply Gr.alloc | apply Gr.drew))⟩
    · have b1 : ((x.length : Int) != (I.length : Int)) = true := by simp; omega
      clear hn1
      go_enter Try.func10, Try.ntmps10
      go_wp2_with fail
      refine (implInsts_any (g0, g1) t0 _ (Rd.gr HG.out (by repeat (first | exact Gr.refl _ | apply Gr.ext | apply Gr.alloc | apply Gr.drew))) (Rd.gr HT.out (by repeat (first | exact Gr.refl _ | apply Gr.ext | apply Gr.alloc | apply Gr.drew))) HWT.out).mono ?_
      rintro e w' ⟨vI, fI, rfl, sI, -, x1, rfl⟩
      rw [← HI.out] at sI
      obtain ⟨aI, kI, rfl, oI1, oI2, oI3⟩ := sI.open
      clear sI
      go_wp2_with fail
      go_ret
      exact ⟨ret_bool HNO.out.symm, (by repeat (first | exact Gr.refl _ | apply Gr.ext | apply Gr.alloc | apply Gr.drew))⟩
end Go.Proofs.Ytbfmeiooeaaibaa
