/- The definition of an instance: the program's. No condition. -/
import Derived.Test.YtbfmeiooeaaibaaGreatXEqn
namespace Go.Proofs.YtbfmeiooeaaibaaGreat
open Go.RowKit
variable {d : Nat}
set_option linter.unusedVariables false

set_option maxRecDepth 100000 in
set_option maxHeartbeats 16000000 in
theorem implDef_any {fg : List Nat} {cg : Array Value} (g : (GGrammar d)) {ft : List Nat} {ct : Array Value} (t : GTree) {fx : List Nat} {cx : Array Value} (x : GInstance) (w : World) (hg : Rd.rd fg w cg.toList g) (ht : Rd.rd ft w ct.toList t) (hx : Rd.rd fx w cx.toList x) (hl : wtGrammar g ≤ 1048576) :
    Calls Tryz.prog 45 #[.agg cg, .agg ct, .agg cx] w (Found [] w (defOf g t x) zeroD) := by
  have HWT := Lib.hid hl
  clear hl
  have HG := Lib.hid hg
  obtain ⟨g0, g1⟩ := g
  obtain ⟨vg0, fg0, vg1, fg1, rfl, hfpg, hg0, hg1⟩ := rdGrammar_inv g0 g1 hg
  have FPg := Lib.hid hfpg
  clear hfpg
  obtain ⟨ag0, kg0, rfl, og01, og02, og03⟩ := hg0.open
  obtain ⟨ag1, kg1, rfl, og11, og12, og13⟩ := hg1.open
  clear hg
  have HT := Lib.hid ht
  obtain ⟨t0, rfl⟩ : ∃ y, y = t := ⟨t, rfl⟩
  obtain ⟨vt0, ft0, rfl, hfpt, ht0⟩ := rdTree_inv t0 ht
  have FPt := Lib.hid hfpt
  clear hfpt
  obtain ⟨at0, kt0, rfl, ot01, ot02, ot03⟩ := ht0.open
  clear ht
  have HX := Lib.hid hx
  obtain ⟨x0, x1⟩ := x
  obtain ⟨rfl, hfpx, hx0, hx1⟩ := rdInstance_inv x0 x1 hx
  have FPx := Lib.hid hfpx
  clear hfpx
  clear hx
  have HX1 := Lib.hid hx1
  go_enter Tryz.func45, Tryz.ntmps45
  go_wp2_with fail
  refine (implAttr_any (g0, g1) t0 (x0, x1) _ (Rd.gr HG.out (by repeat (first | exact Gr.refl _ | apply Gr.ext | apply Gr.alloc | apply Gr.drew))) (Rd.gr HT.out (by repeat (first | exact Gr.refl _ | apply Gr.ext | apply Gr.alloc | apply Gr.drew))) (Rd.gr HX.out (by repeat (first | exact Gr.refl _ | apply Gr.ext | apply Gr.alloc | apply Gr.drew)))).mono ?_
  rintro e w' ⟨es, fq, rfl, hr, -, z1, rfl⟩
  obtain ⟨yr, hyr⟩ : ∃ y, y = (attrOf (g0, g1) t0 (x0, x1)).getD zeroA := ⟨_, rfl⟩; have hr1r := hr; change Rd.rd fq _ es.toList ((attrOf (g0, g1) t0 (x0, x1)).getD zeroA) at hr1r; rw [← hyr] at hr1r; have HYr := Lib.hid hyr; have HRr := Lib.hid hr1r; obtain ⟨r0, r1, r2, r3⟩ := yr; obtain ⟨rfl, hfqr, hr0, hr1, hr2⟩ := rdAttribute_inv r0 r1 r2 r3 hr1r; have FQr := Lib.hid hfqr; clear hfqr; clear hr hr1r hyr; obtain ⟨bb, hbb⟩ : ∃ b : Bool, b = (attrOf (g0, g1) t0 (x0, x1)).isSome := ⟨_, rfl⟩; rw [← hbb]; have Hbb := Lib.hid hbb; clear hbb
  generalize hB : ((((w.alloc (.cells #[.slice ag0 g0.length kg0, .slice ag1 g1.length kg1] 43)).alloc (.cells #[.slice at0 t0.length kt0] 47)).alloc (.cells #[.int .i64 x0, .string x1] 34)).alloc (.cells #[.int .i64 0, .int .i64 0, .int .i64 0, .int .i64 0, .int .i64 0, .string ⟨#[]⟩, .string ⟨#[]⟩, .slice none 0 0] 89)).ext z1 = B
  have gB : Gr w B := by rw [← hB]; exact (by repeat (first | exact Gr.refl _ | apply Gr.ext | apply Gr.alloc | apply Gr.drew))
  have bB0 : ∀ w' : World, Gr B w' → w'.cell? ⟨w.heap.size, 0, none⟩ = some (.slice ag0 g0.length kg0) := fun w' hg => hg.keep (by rw [← hB]; repeat (first | ((with_reducible refine box_cell ?_ ?_) <;> first | omega | (simp; done) | (simp; omega) | rfl) | (with_reducible refine Gr.keep (Gr.alloc (Gr.refl _) _) ?_) | (with_reducible refine Gr.keep (Gr.ext (Gr.refl _) _) ?_) | (with_reducible refine Gr.keep (Gr.drew (Gr.refl _)) ?_)))
  have bB1 : ∀ w' : World, Gr B w' → w'.cell? ⟨w.heap.size, 1, none⟩ = some (.slice ag1 g1.length kg1) := fun w' hg => hg.keep (by rw [← hB]; repeat (first | ((with_reducible refine box_cell ?_ ?_) <;> first | omega | (simp; done) | (simp; omega) | rfl) | (with_reducible refine Gr.keep (Gr.alloc (Gr.refl _) _) ?_) | (with_reducible refine Gr.keep (Gr.ext (Gr.refl _) _) ?_) | (with_reducible refine Gr.keep (Gr.drew (Gr.refl _)) ?_)))
  have bB2 : ∀ w' : World, Gr B w' → w'.cell? ⟨w.heap.size + 1, 0, none⟩ = some (.slice at0 t0.length kt0) := fun w' hg => hg.keep (by rw [← hB]; repeat (first | ((with_reducible refine box_cell ?_ ?_) <;> first | omega | (simp; done) | (simp; omega) | rfl) | (with_reducible refine Gr.keep (Gr.alloc (Gr.refl _) _) ?_) | (with_reducible refine Gr.keep (Gr.ext (Gr.refl _) _) ?_) | (with_reducible refine Gr.keep (Gr.drew (Gr.refl _)) ?_)))
  have bB3 : ∀ w' : World, Gr B w' → w'.cell? ⟨w.heap.size + 1 + 1, 0, none⟩ = some (.int .i64 x0) := fun w' hg => hg.keep (by rw [← hB]; repeat (first | ((with_reducible refine box_cell ?_ ?_) <;> first | omega | (simp; done) | (simp; omega) | rfl) | (with_reducible refine Gr.keep (Gr.alloc (Gr.refl _) _) ?_) | (with_reducible refine Gr.keep (Gr.ext (Gr.refl _) _) ?_) | (with_reducible refine Gr.keep (Gr.drew (Gr.refl _)) ?_)))
  have bB4 : ∀ w' : World, Gr B w' → w'.cell? ⟨w.heap.size + 1 + 1, 1, none⟩ = some (.string x1) := fun w' hg => hg.keep (by rw [← hB]; repeat (first | ((with_reducible refine box_cell ?_ ?_) <;> first | omega | (simp; done) | (simp; omega) | rfl) | (with_reducible refine Gr.keep (Gr.alloc (Gr.refl _) _) ?_) | (with_reducible refine Gr.keep (Gr.ext (Gr.refl _) _) ?_) | (with_reducible refine Gr.keep (Gr.drew (Gr.refl _)) ?_)))
  have bB5 : ∀ w' : World, Gr B w' → w'.cell? ⟨w.heap.size + 2, 0, none⟩ = some (.int .i64 x0) := fun w' hg => hg.keep (by rw [← hB]; repeat (first | ((with_reducible refine box_cell ?_ ?_) <;> first | omega | (simp; done) | (simp; omega) | rfl) | (with_reducible refine Gr.keep (Gr.alloc (Gr.refl _) _) ?_) | (with_reducible refine Gr.keep (Gr.ext (Gr.refl _) _) ?_) | (with_reducible refine Gr.keep (Gr.drew (Gr.refl _)) ?_)))
  have bB6 : ∀ w' : World, Gr B w' → w'.cell? ⟨w.heap.size + 2, 1, none⟩ = some (.string x1) := fun w' hg => hg.keep (by rw [← hB]; repeat (first | ((with_reducible refine box_cell ?_ ?_) <;> first | omega | (simp; done) | (simp; omega) | rfl) | (with_reducible refine Gr.keep (Gr.alloc (Gr.refl _) _) ?_) | (with_reducible refine Gr.keep (Gr.ext (Gr.refl _) _) ?_) | (with_reducible refine Gr.keep (Gr.drew (Gr.refl _)) ?_)))
  have sB : B.heap.size = w.heap.size + 4 + z1.objs.size := by rw [← hB]; first | (simp; done) | (simp; omega)
  have EB := Lib.hid hB
  clear hB
  have HVB : Hid (VRow B (w.heap.size + 1 + 1 + 1) 89 [.int .i64 0, .int .i64 0, .int .i64 0, .int .i64 0, .int .i64 0, .string ⟨#[]⟩, .string ⟨#[]⟩, .slice none 0 0]) := Lib.hid (VRow.gr (w := (((w.alloc (.cells #[.slice ag0 g0.length kg0, .slice ag1 g1.length kg1] 43)).alloc (.cells #[.slice at0 t0.length kt0] 47)).alloc (.cells #[.int .i64 x0, .string x1] 34)).alloc (.cells #[.int .i64 0, .int .i64 0, .int .i64 0, .int .i64 0, .int .i64 0, .string ⟨#[]⟩, .string ⟨#[]⟩, .slice none 0 0] 89)) (by unfold VRow; simpa using heap_alloc_new (((w.alloc (.cells #[.slice ag0 g0.length kg0, .slice ag1 g1.length kg1] 43)).alloc (.cells #[.slice at0 t0.length kt0] 47)).alloc (.cells #[.int .i64 x0, .string x1] 34)) (.cells #[.int .i64 0, .int .i64 0, .int .i64 0, .int .i64 0, .int .i64 0, .string ⟨#[]⟩, .string ⟨#[]⟩, .slice none 0 0] 89)) (by rw [← EB.out]; exact (by repeat (first | exact Gr.refl _ | apply Gr.ext | apply Gr.alloc | apply Gr.drew))))
  have HSB := Lib.hid sB
  clear sB
  have HGT := Lib.hid gB
  cases bb with
  | false =>
    have hno : defOf (g0, g1) t0 (x0, x1) = none := defOf_none (none_of_isSome Hbb.out.symm)
    obtain rfl := EB.out
    have HNO := Lib.hid hno
    clear hno
    go_wp2_with fail
    exact bodyPost_ret (v := .tuple #[.agg #[.int .i64 0, .int .i64 0, .int .i64 0, .int .i64 0, .int .i64 0, .string ⟨#[]⟩, .string ⟨#[]⟩, .slice none 0 0], .bool false])
      (by simp [results, Tryz.results45, go_sem]) rfl ⟨_, _, by rw [HNO.out]; rfl, by rw [HNO.out]; exact zeroD_rd _, by simp, (HGT.out).trans (by repeat (first | exact Gr.refl _ | apply Gr.ext | apply Gr.alloc | apply Gr.drew))⟩
  | true =>
    have hat : attrOf (g0, g1) t0 (x0, x1) = some (r0, r1, r2, r3) := some_of_getD Hbb.out.symm HYr.out.symm
    by_cases hm3 : r2 = 3
    · have hno : defOf (g0, g1) t0 (x0, x1) = none := defOf_coll hat hm3
      subst hm3
      clear hat
      obtain rfl := EB.out
      have HNO := Lib.hid hno
      clear hno
      go_wp2_with fail
      exact bodyPost_ret (v := .tuple #[.agg #[.int .i64 0, .int .i64 0, .int .i64 0, .int .i64 0, .int .i64 0, .string ⟨#[]⟩, .string ⟨#[]⟩, .slice none 0 0], .bool false])
        (by simp [results, Tryz.results45, go_sem]) rfl ⟨_, _, by rw [HNO.out]; rfl, by rw [HNO.out]; exact zeroD_rd _, by simp, (HGT.out).trans (by repeat (first | exact Gr.refl _ | apply Gr.ext | apply Gr.alloc | apply Gr.drew))⟩
    · obtain ⟨n, hn, hnl⟩ := attr_ix hat
      have HN := Lib.hid hn
      have HAT := Lib.hid hat
      have HNL := Lib.hid hnl
      clear hn hat
      go_wp2_with fail
      generalize hC : B.alloc (.cells #[.string r0, .int .i64 r1, .int .i64 r2, .bool r3] 79) = C
      have gBC : Gr B C := by rw [← hC]; exact (by repeat (first | exact Gr.refl _ | apply Gr.ext | apply Gr.alloc | apply Gr.drew))
      have cC2 : C.cell? ⟨B.heap.size, 2, none⟩ = some (.int .i64 r2) := by rw [← hC]; repeat (first | ((with_reducible refine box_cell ?_ ?_) <;> first | omega | (simp; done) | (simp; omega) | rfl) | (with_reducible refine Gr.keep (Gr.alloc (Gr.refl _) _) ?_) | (with_reducible refine Gr.keep (Gr.ext (Gr.refl _) _) ?_) | (with_reducible refine Gr.keep (Gr.drew (Gr.refl _)) ?_))
      clear hC
      have HGC := Lib.hid (gB.trans gBC)
      have k0 := fun (w' : World) (h : Gr C w') => bB2 _ (gBC.trans h)
      have k1 := fun (w' : World) (h : Gr C w') => bB3 _ (gBC.trans h)
      have k2 := fun (w' : World) (h : Gr C w') => bB4 _ (gBC.trans h)
      have k3 := fun (w' : World) (h : Gr C w') => bB5 _ (gBC.trans h)
      have k4 := fun (w' : World) (h : Gr C w') => bB6 _ (gBC.trans h)
      go_cut [10, 11] (fun s10 s11 wr => AtBox C 154 (n : Int) 0 x1 s10 s11 wr)
      case first =>
        go_region_held3 (fun w' => Gr C w') (first | assumption | exact Gr.drew (Gr.refl _) | (repeat (first | assumption | exact Gr.refl _ | apply Gr.ext | apply Gr.alloc | apply Gr.drew)))
          (first | (go_at_call 90; refine (implNodeIx_any t0 x0 _ (Rd.gr HT.out (HGC.out.trans (by first | assumption | exact (by repeat (first | exact Gr.refl _ | apply Gr.ext | apply Gr.alloc | apply Gr.drew)))))).mono ?_; rintro e w' ⟨rfl, x2, rfl⟩; rw [HN.out]))
        all_goals
          go_wp2_with fail
          go_meet
          refine ⟨_, _, rfl, Lib.hid rfl, rfl, by first | omega | (simp; done) | (simp; omega), (by repeat (first | exact Gr.refl _ | apply Gr.ext | apply Gr.alloc | apply Gr.drew)), ?_⟩
          repeat (first | ((with_reducible refine VRow.new ?_) <;> first | omega | (simp; done) | (simp; omega) | rfl) | (with_reducible refine VRow.gr ?_ (Gr.alloc (Gr.refl _) _)) | (with_reducible refine VRow.gr ?_ (Gr.ext (Gr.refl _) _)) | (with_reducible refine VRow.gr ?_ (Gr.drew (Gr.refl _))))
      case rest =>
        obtain ⟨O, b11, rfl, HOn, rfl, hb11, gT6, vO⟩ := hcut
        have ca0 := vO.cell (k := 0) (by simp)
        have ca1 := vO.cell (k := 1) (by simp)
        have HVO := Lib.hid vO
        clear vO
        rename World => W6
        have cC2' := gT6.keep cC2
        have zcC := blk cC2'
        have gT := gBC.trans gT6
        have HGT6 := Lib.hid gT6
        clear k0 k1 k2 k3 k4 gT6
        by_cases hm1 : r2 = 1
        · subst hm1
          have hlt := hnl
          have hgt := gB.trans gT
          obtain ⟨b, off, rfl, hbb⟩ := ot03 n hlt
          obtain ⟨csq, feq, hcq, hrq, -⟩ := ht0.at hlt
          obtain ⟨yq, hyq⟩ : ∃ y, y = t0[n] := ⟨_, rfl⟩
          rw [← hyq] at hrq
          have HYq := Lib.hid hyq
          have HRq := Lib.hid hrq
          obtain ⟨q0, q1, q2, q3, q4, q5⟩ := yq
          obtain ⟨vq5, fq5, hcsq, -, hq0, hq1, hq2, hq3, hq4, hq5⟩ := rdNode_inv (cs := csq.toArray) q0 q1 q2 q3 q4 q5 (by simpa using hrq)
          obtain rfl : csq = [.int .i64 q0, .int .i64 q1, .int .i64 q2, .int .i64 q3, .string q4, vq5] := by have := congrArg Array.toList hcsq; simpa using this
          obtain ⟨aq5, kq5, rfl, oq51, oq52, oq53⟩ := hq5.open
          have qz0 := hgt.keep (show w.cell? ⟨b, off + n * 6, none⟩ = some (.int .i64 q0) from by simpa [Rd.n] using hcq 0 _ rfl)
          have qz1 := hgt.keep (show w.cell? ⟨b, off + n * 6 + 1, none⟩ = some (.int .i64 q1) from hcq 1 _ rfl)
          have qz2 := hgt.keep (show w.cell? ⟨b, off + n * 6 + 2, none⟩ = some (.int .i64 q2) from hcq 2 _ rfl)
          have qz3 := hgt.keep (show w.cell? ⟨b, off + n * 6 + 3, none⟩ = some (.int .i64 q3) from hcq 3 _ rfl)
          have qz4 := hgt.keep (show w.cell? ⟨b, off + n * 6 + 4, none⟩ = some (.string q4) from hcq 4 _ rfl)
          have qz5 := hgt.keep (show w.cell? ⟨b, off + n * 6 + 5, none⟩ = some (.slice aq5 q5.length kq5) from hcq 5 _ rfl)
          have qzb := blk qz0
          clear hcsq hcq hrq hyq
          have v0 := bB0 _ gT
          have v2 := bB2 _ gT
          have v3 := bB3 _ gT
          have v5 := bB5 _ gT
          have zv0 := blk v0
          have zv2 := blk v2
          have zv3 := blk v3
          have zv5 := blk v5
          have zva := blk ca0
          have j0 : (0 : Int) ≤ (n : Int) := by omega
          have j1 : (n : Int) < (t0.length : Int) := by omega
          have hOn : O = n := HOn.out
          subst hOn
          have fa0 := HVO.out.frozen 0
          go_wp2_with fail
          have HBC := Lib.hid gBC
          have hgs := gBC.size
          go_cut [10] (fun s10 wr => AtBox C 154 q1 q2 x1 s10 (.pointer (some ⟨b11, 0, none⟩)) wr)
          case first =>
            go_region
            all_goals
              go_wp2_with fail
              go_meet
              refine ⟨_, _, rfl, Lib.hid rfl, rfl, hb11, (Gr.setCell (p := ⟨b11, 0, none⟩) HGT6.out hb11 (.int .i64 q2)).drew, ?_⟩
              exact VRow.gr (HVO.out.set 0 (.int .i64 q2)) (Gr.drew (Gr.refl _))
          case rest =>
            obtain ⟨O, b', rfl, HOn, hbe, hb11', gT7, vO⟩ := hcut
            rename World => W7
            obtain rfl : b11 = b' := by simpa using hbe
            have hdo : defOf (g0, g1) t0 (x0, x1) = defAt (g0, g1) t0 O q2 x1 := by
              have h1 := defOf_inh HAT.out rfl HN.out hnl
              rw [← HYq.out] at h1
              rw [HOn.out]
              exact h1
            have HWP := Lib.hid hq2
            clear qz0 qz1 qz2 qz3 qz4 qz5 v0 v2 v3 v5 fa0 ca0 ca1 cC2 cC2' gT j0 j1 HVO
            have ca0 := vO.cell (k := 0) (by simp)
            have ca1 := vO.cell (k := 1) (by simp)
            have gT := HBC.out.trans gT7
            clear hq0 hq1 hq2 hq3 hq4 hq5 vO gT7
            have HGT := Lib.hid (gB.trans gT)
            have y0 := bB0 _ gT
            have y1 := bB1 _ gT
            have y2 := bB2 _ gT
            have y3 := bB3 _ gT
            have y4 := bB4 _ gT
            have y5 := bB5 _ gT
            have y6 := bB6 _ gT
            have zy0 := blk y0
            have zy2 := blk y2
            have zy3 := blk y3
            have zca := blk ca0
            by_cases hin : 0 ≤ O ∧ O ≤ (t0.length : Int) - 1
            · obtain ⟨m, rfl⟩ : ∃ m : Nat, O = m := ⟨O.toNat, by omega⟩
              have hlt : m < t0.length := by omega
              have HDO := Lib.hid hdo
              have HIN := Lib.hid hin
              clear hdo hin
              have hgt := HGT.out
              obtain ⟨csp, fep, hcp, hrp, -⟩ := ht0.at hlt
              obtain ⟨yp, hyp⟩ : ∃ y, y = t0[m] := ⟨_, rfl⟩
              rw [← hyp] at hrp
              have HYp := Lib.hid hyp
              have HRp := Lib.hid hrp
              obtain ⟨p0, p1, p2, p3, p4, p5⟩ := yp
              obtain ⟨vp5, fp5, hcsp, -, hp0, hp1, hp2, hp3, hp4, hp5⟩ := rdNode_inv (cs := csp.toArray) p0 p1 p2 p3 p4 p5 (by simpa using hrp)
              obtain rfl : csp = [.int .i64 p0, .int .i64 p1, .int .i64 p2, .int .i64 p3, .string p4, vp5] := by have := congrArg Array.toList hcsp; simpa using this
              obtain ⟨ap5, kp5, rfl, op51, op52, op53⟩ := hp5.open
              have pz0 := hgt.keep (show w.cell? ⟨b, off + m * 6, none⟩ = some (.int .i64 p0) from by simpa [Rd.n] using hcp 0 _ rfl)
              have pz1 := hgt.keep (show w.cell? ⟨b, off + m * 6 + 1, none⟩ = some (.int .i64 p1) from hcp 1 _ rfl)
              have pz2 := hgt.keep (show w.cell? ⟨b, off + m * 6 + 2, none⟩ = some (.int .i64 p2) from hcp 2 _ rfl)
              have pz3 := hgt.keep (show w.cell? ⟨b, off + m * 6 + 3, none⟩ = some (.int .i64 p3) from hcp 3 _ rfl)
              have pz4 := hgt.keep (show w.cell? ⟨b, off + m * 6 + 4, none⟩ = some (.string p4) from hcp 4 _ rfl)
              have pz5 := hgt.keep (show w.cell? ⟨b, off + m * 6 + 5, none⟩ = some (.slice ap5 p5.length kp5) from hcp 5 _ rfl)
              have pzb := blk pz0
              clear hcsp hcp hrp hyp
              have j0 : (0 : Int) ≤ (m : Int) := by omega
              have j1 : (m : Int) < (t0.length : Int) := by omega
              obtain ⟨Y, hY⟩ : ∃ Y, Y = (lookR g1 p4).getD zeroR := ⟨_, rfl⟩
              have hda := defAt_in (g := (g0, g1)) (p := q2) (n := x1) (y := Y) hlt (by rw [← HYp.out]; exact hY)
              have hwY : wtRule Y ≤ 1048576 := by rw [hY]; exact look_wt HWT.out p4
              have HDA := Lib.hid hda
              have HWY := Lib.hid hwY
              have HYY := Lib.hid hY
              clear hY hda hwY hgt
              go_wp2_with fail
              refine (isNode_yes t0 (m : Int) _ (Rd.gr HT.out (HGT.out.trans (by repeat (first | exact Gr.refl _ | apply Gr.ext | apply Gr.alloc | apply Gr.drew)))) HIN.out.1 HIN.out.2).mono ?_
              rintro e W8 ⟨rfl, g8⟩
              go_wp2_with fail
              have u0 := g8.keep y0
              have u1 := g8.keep y1
              have u2 := g8.keep y2
              have u3 := g8.keep y3
              have u4 := g8.keep y4
              have u5 := g8.keep y5
              have u6 := g8.keep y6
              have ua0 := g8.keep ca0
              have ua1 := g8.keep ca1
              have uq := g8.keep pz4
              have HG8 := Lib.hid (HGT.out.trans g8)
              have HB8 := Lib.hid (gT.trans g8)
              have zu0 := blk u0
              have zu2 := blk u2
              have zu3 := blk u3
              have zua := blk ua0
              have zuq := blk uq
              have k0 := fun (w' : World) (h : Gr W8 w') => h.keep u0
              have k1 := fun (w' : World) (h : Gr W8 w') => h.keep u1
              have k2 := fun (w' : World) (h : Gr W8 w') => h.keep u2
              have k3 := fun (w' : World) (h : Gr W8 w') => h.keep uq
              clear y0 y1 y2 y3 y4 y5 y6 ca0 ca1 pz0 pz1 pz2 pz3 pz4 pz5 g8
              go_cut [12] (fun s wr => BoxAt W8 Y s wr)
              case first =>
                go_region_held3 (fun w' => Gr W8 w') (first | assumption | exact Gr.drew (Gr.refl _) | (repeat (first | assumption | exact Gr.refl _ | apply Gr.ext | apply Gr.alloc | apply Gr.drew)))
                  (first | (go_at_call 95; refine (implFindRule_any (g0, g1) p4 _ (Rd.gr HG.out (HG8.out.trans (by first | assumption | exact (by repeat (first | exact Gr.refl _ | apply Gr.ext | apply Gr.alloc | apply Gr.drew)))))).mono ?_; rintro e w' ⟨es, fq, rfl, hr, hfq, x2, rfl⟩; obtain ⟨ys, hys⟩ : ∃ y, y = (lookR g1 p4).getD zeroR := ⟨_, rfl⟩; have hr1s := hr; change Rd.rd fq _ es.toList ((lookR g1 p4).getD zeroR) at hr1s; rw [← hys] at hr1s; have HYs := Lib.hid hys; have HRs := Lib.hid hr1s; obtain ⟨s0, s1, s2, s3, s4, s5⟩ := ys; obtain ⟨vs2, fs2, vs4, fs4, vs5, fs5, rfl, hfqs, hs0, hs1, hs2, hs4, hs5⟩ := rdRule_inv s0 s1 s2 s3 s4 s5 hr1s; have FQs := Lib.hid hfqs; clear hfqs; obtain ⟨as2, ks2, rfl, os21, os22, os23⟩ := hs2.open; obtain ⟨as4, ks4, rfl, os41, os42, os43⟩ := hs4.open; obtain ⟨as5, ks5, rfl, os51, os52, os53⟩ := hs5.open; clear hr hr1s hys; obtain ⟨b2, hb2⟩ : ∃ b : Bool, b = (lookR g1 p4).isSome := ⟨_, rfl⟩; rw [← hb2]; have Hb2 := Lib.hid hb2; clear hb2))
                all_goals
                  go_wp2_with fail
                  go_meet
                  have hY : Y = (s0, s1, s2, s3, s4, s5) := HYY.out.trans HYs.out.symm
                  subst hY
                  have hnb : ∀ c ∈ fq, c < w.heap.size ∨ _ ≤ c := fun c hc => (hfq c hc).imp (Rd.lt HG.out c) id
                  have hw8 := HG8.out.size
                  refine ⟨_, [.string s0, .string s1, .slice as2 s2.length ks2, .bool s3, .slice as4 s4.length ks4, .slice as5 s5.length ks5], fq, rfl, (by repeat (first | exact Gr.refl _ | apply Gr.ext | apply Gr.alloc | apply Gr.drew)), fun j u hj => ?_, ?_, by first | omega | (simp; done) | (simp; omega)⟩
                  · match j, hj with
                    | 0, hj => obtain rfl := Option.some.inj hj; repeat (first | ((with_reducible refine box_cell ?_ ?_) <;> first | omega | (simp; done) | (simp; omega) | rfl) | (with_reducible refine Gr.keep (Gr.alloc (Gr.refl _) _) ?_) | (with_reducible refine Gr.keep (Gr.ext (Gr.refl _) _) ?_) | (with_reducible refine Gr.keep (Gr.drew (Gr.refl _)) ?_))
                    | 1, hj => obtain rfl := Option.some.inj hj; repeat (first | ((with_reducible refine box_cell ?_ ?_) <;> first | omega | (simp; done) | (simp; omega) | rfl) | (with_reducible refine Gr.keep (Gr.alloc (Gr.refl _) _) ?_) | (with_reducible refine Gr.keep (Gr.ext (Gr.refl _) _) ?_) | (with_reducible refine Gr.keep (Gr.drew (Gr.refl _)) ?_))
                    | 2, hj => obtain rfl := Option.some.inj hj; repeat (first | ((with_reducible refine box_cell ?_ ?_) <;> first | omega | (simp; done) | (simp; omega) | rfl) | (with_reducible refine Gr.keep (Gr.alloc (Gr.refl _) _) ?_) | (with_reducible refine Gr.keep (Gr.ext (Gr.refl _) _) ?_) | (with_reducible refine Gr.keep (Gr.drew (Gr.refl _)) ?_))
                    | 3, hj => obtain rfl := Option.some.inj hj; repeat (first | ((with_reducible refine box_cell ?_ ?_) <;> first | omega | (simp; done) | (simp; omega) | rfl) | (with_reducible refine Gr.keep (Gr.alloc (Gr.refl _) _) ?_) | (with_reducible refine Gr.keep (Gr.ext (Gr.refl _) _) ?_) | (with_reducible refine Gr.keep (Gr.drew (Gr.refl _)) ?_))
                    | 4, hj => obtain rfl := Option.some.inj hj; repeat (first | ((with_reducible refine box_cell ?_ ?_) <;> first | omega | (simp; done) | (simp; omega) | rfl) | (with_reducible refine Gr.keep (Gr.alloc (Gr.refl _) _) ?_) | (with_reducible refine Gr.keep (Gr.ext (Gr.refl _) _) ?_) | (with_reducible refine Gr.keep (Gr.drew (Gr.refl _)) ?_))
                    | 5, hj => obtain rfl := Option.some.inj hj; repeat (first | ((with_reducible refine box_cell ?_ ?_) <;> first | omega | (simp; done) | (simp; omega) | rfl) | (with_reducible refine Gr.keep (Gr.alloc (Gr.refl _) _) ?_) | (with_reducible refine Gr.keep (Gr.ext (Gr.refl _) _) ?_) | (with_reducible refine Gr.keep (Gr.drew (Gr.refl _)) ?_))
                  · first
                      | (refine Rd.gr HRs.out ?_; (repeat (first | exact Gr.refl _ | apply Gr.ext | apply Gr.alloc | apply Gr.drew)); done)
                      | ((with_reducible refine Rd.mono (sameOn_box ?_) HRs.out); exact fun c hc e => by subst e; have := hnb _ hc; simp at this; omega)
                      | ((with_reducible refine Rd.mono (sameOn_box2 ?_) HRs.out); exact fun c hc e => by subst e; have := hnb _ hc; simp at this; omega)
                      | ((with_reducible refine Rd.mono (sameOn_boxd ?_) HRs.out); exact fun c hc e => by subst e; have := hnb _ hc; simp at this; omega)
              case rest =>
                obtain ⟨b12, cs12, f12, rfl, g9, hcs, hrd, hb12⟩ := hcut
                rename World => W9
                obtain ⟨s0, s1, s2, s3, s4, s5⟩ := Y
                obtain ⟨vs2, fs2, vs4, fs4, vs5, fs5, hcc, -, hs0, hs1, hs2, hs4, hs5⟩ := rdRule_inv (cs := cs12.toArray) s0 s1 s2 s3 s4 s5 (by simpa using hrd)
                obtain rfl : cs12 = [.string s0, .string s1, vs2, .bool s3, vs4, vs5] := by have := congrArg Array.toList hcc; simpa using this
                have HRD := Lib.hid hrd
                have c0 := hcs 0 _ rfl
                have c1 := hcs 1 _ rfl
                have c2 := hcs 2 _ rfl
                have c3 := hcs 3 _ rfl
                have c4 := hcs 4 _ rfl
                have c5 := hcs 5 _ rfl
                have zc0 := blk c0
                have v3 := g9.keep u3
                have v4 := g9.keep u4
                have v5 := g9.keep u5
                have v6 := g9.keep u6
                have va0 := g9.keep ua0
                have va1 := g9.keep ua1
                have zv3 := blk v3
                have zv5 := blk v5
                have zva := blk va0
                have HG9 := Lib.hid (HG8.out.trans g9)
                have HB9 := Lib.hid (HB8.out.trans g9)
                have HS9 := Lib.hid (VRow.gr HVB.out HB9.out).lt
                clear hcs hrd hcc k0 k1 k2 k3 u0 u1 u2 u3 u4 u5 u6 ua0 ua1 uq g9 hs0 hs1 hs2 hs4 hs5
                go_wp2_with fail
                refine (implFindEq_any (s0, s1, s2, s3, s4, s5) (q2, x1) _ (Rd.gr HRD.out (by repeat (first | exact Gr.refl _ | apply Gr.ext | apply Gr.alloc | apply Gr.drew))) (rdOccurrence_mk q2 x1 HWP.out HX1.out) HWY.out).mono ?_
                rintro e W10 ⟨es, fq, rfl, hr, hfq, g10⟩
                obtain ⟨ye, hye⟩ : ∃ y, y = (eqnOf s4 (q2, x1)).getD zeroX := ⟨_, rfl⟩; have hr1e := hr; change Rd.rd fq _ es.toList ((eqnOf s4 (q2, x1)).getD zeroX) at hr1e; rw [← hye] at hr1e; have HYe := Lib.hid hye; have HRe := Lib.hid hr1e; obtain ⟨e0, e1, e2, e3, e4, e5, e6⟩ := ye; obtain ⟨ve6, fe6, rfl, hfqe, he0, he1, he2, he3, he4, he5, he6⟩ := rdExpr_inv e0 e1 e2 e3 e4 e5 e6 hr1e; have FQe := Lib.hid hfqe; clear hfqe; obtain ⟨ae6, ke6, rfl, oe61, oe62, oe63⟩ := he6.open; clear hr hr1e hye; obtain ⟨b3, hb3⟩ : ∃ b : Bool, b = (eqnOf s4 (q2, x1)).isSome := ⟨_, rfl⟩; rw [← hb3]; have Hb3 := Lib.hid hb3; clear hb3
                have HG10 := Lib.hid (HG9.out.trans g10)
                have HB10 := Lib.hid (HB9.out.trans g10)
                have vR := VRow.gr HVB.out (HB10.out)
                have e0r := vR.cell (k := 0) (by simp)
                have f0r := vR.frozen 0
                have e1r := vR.cell (k := 1) (by simp)
                have f1r := vR.frozen 1
                have e2r := vR.cell (k := 2) (by simp)
                have f2r := vR.frozen 2
                have e3r := vR.cell (k := 3) (by simp)
                have f3r := vR.frozen 3
                have e4r := vR.cell (k := 4) (by simp)
                have f4r := vR.frozen 4
                have e5r := vR.cell (k := 5) (by simp)
                have f5r := vR.frozen 5
                have e6r := vR.cell (k := 6) (by simp)
                have f6r := vR.frozen 6
                have e7r := vR.cell (k := 7) (by simp)
                have f7r := vR.frozen 7
                have zer := blk e0r
                have HVR := Lib.hid vR
                clear vR
                clear g10
                cases b3 with
                | false =>
                  have hno : defOf (g0, g1) t0 (x0, x1) = none := by rw [HDO.out, HDA.out, none_of_isSome Hb3.out.symm]; rfl
                  have HGT := HG10
                  have HNO := Lib.hid hno
                  clear hno
                  go_wp2_with fail
                  clear e0r e1r e2r e3r e4r e5r e6r e7r f0r f1r f2r f3r f4r f5r f6r f7r
                  generalize hF : (((((((((W10.setCell ⟨w.heap.size + 1 + 1 + 1, 0, none⟩ (.int .i64 0)).setCell ⟨w.heap.size + 1 + 1 + 1, 1, none⟩ (.int .i64 0)).setCell ⟨w.heap.size + 1 + 1 + 1, 2, none⟩ (.int .i64 0)).setCell ⟨w.heap.size + 1 + 1 + 1, 3, none⟩ (.int .i64 0)).setCell ⟨w.heap.size + 1 + 1 + 1, 4, none⟩ (.int .i64 0)).setCell ⟨w.heap.size + 1 + 1 + 1, 5, none⟩ (.string ⟨#[]⟩)).setCell ⟨w.heap.size + 1 + 1 + 1, 6, none⟩ (.string ⟨#[]⟩)).setCell ⟨w.heap.size + 1 + 1 + 1, 7, none⟩ (.slice none 0 0)).alloc (.cells #[.int .i64 e0, .int .i64 e1, .int .i64 e2, .int .i64 e3, .string e4, .string e5, .slice ae6 e6.length ke6] 87)) = WF
                  have vF : VRow WF (w.heap.size + 1 + 1 + 1) 89 [.int .i64 0, .int .i64 0, .int .i64 0, .int .i64 0, .int .i64 0, .string ⟨#[]⟩, .string ⟨#[]⟩, .slice none 0 0] := by rw [← hF]; exact (VRow.put8 HVR.out _ _ _ _ _ _ _ _).gr (Gr.alloc (Gr.refl _) _)
                  have wF : Wr [w.heap.size + 1 + 1 + 1] W10 WF := by rw [← hF]; exact (Wr.put8 _ _ _ _ _ _ _ _ _ _).gr (Gr.alloc (Gr.refl _) _)
                  have gF : Gr w WF := by rw [← hF]; exact (Gr.put8 HGT.out (by omega) _ _ _ _ _ _ _ _).trans (Gr.alloc (Gr.refl _) _)
                  have e0r := vF.cell (k := 0) (by simp)
                  have e1r := vF.cell (k := 1) (by simp)
                  have e2r := vF.cell (k := 2) (by simp)
                  have e3r := vF.cell (k := 3) (by simp)
                  have e4r := vF.cell (k := 4) (by simp)
                  have e5r := vF.cell (k := 5) (by simp)
                  have e6r := vF.cell (k := 6) (by simp)
                  have e7r := vF.cell (k := 7) (by simp)
                  clear hF vF
                  exact bodyPost_ret (v := .tuple #[.agg #[.int .i64 0, .int .i64 0, .int .i64 0, .int .i64 0, .int .i64 0, .string ⟨#[]⟩, .string ⟨#[]⟩, .slice none 0 0], .bool false])
                    (by simp [results, Tryz.results45, go_sem, e0r, e1r, e2r, e3r, e4r, e5r, e6r, e7r]) rfl ⟨_, _, by rw [HNO.out]; rfl, by rw [HNO.out]; exact zeroD_rd _, by simp, gF⟩
                | true =>
                  have hyes : defOf (g0, g1) t0 (x0, x1) = some ((m : Int), (e0, e1, e2, e3, e4, e5, e6)) := by rw [HDO.out, HDA.out, some_of_getD Hb3.out.symm HYe.out.symm]; rfl
                  have HYES := Lib.hid hyes
                  have HM := Lib.hid (wf_small (y := (m : Int)) (by omega) (by have := ot02; omega))
                  have HEX := Lib.hid hfq
                  clear hyes hfq
                  have HGT := HG10
                  have HSE := Lib.hid he6
                  clear he6
                  go_wp2_with fail
                  clear e0r e1r e2r e3r e4r e5r e6r e7r f0r f1r f2r f3r f4r f5r f6r f7r
                  generalize hF : (((((((((W10.setCell ⟨w.heap.size + 1 + 1 + 1, 0, none⟩ (.int .i64 m)).setCell ⟨w.heap.size + 1 + 1 + 1, 1, none⟩ (.int .i64 e0)).setCell ⟨w.heap.size + 1 + 1 + 1, 2, none⟩ (.int .i64 e1)).setCell ⟨w.heap.size + 1 + 1 + 1, 3, none⟩ (.int .i64 e2)).setCell ⟨w.heap.size + 1 + 1 + 1, 4, none⟩ (.int .i64 e3)).setCell ⟨w.heap.size + 1 + 1 + 1, 5, none⟩ (.string e4)).setCell ⟨w.heap.size + 1 + 1 + 1, 6, none⟩ (.string e5)).setCell ⟨w.heap.size + 1 + 1 + 1, 7, none⟩ (.slice ae6 e6.length ke6)).alloc (.cells #[.int .i64 e0, .int .i64 e1, .int .i64 e2, .int .i64 e3, .string e4, .string e5, .slice ae6 e6.length ke6] 87)) = WF
                  have vF : VRow WF (w.heap.size + 1 + 1 + 1) 89 [.int .i64 m, .int .i64 e0, .int .i64 e1, .int .i64 e2, .int .i64 e3, .string e4, .string e5, .slice ae6 e6.length ke6] := by rw [← hF]; exact (VRow.put8 HVR.out _ _ _ _ _ _ _ _).gr (Gr.alloc (Gr.refl _) _)
                  have wF : Wr [w.heap.size + 1 + 1 + 1] W10 WF := by rw [← hF]; exact (Wr.put8 _ _ _ _ _ _ _ _ _ _).gr (Gr.alloc (Gr.refl _) _)
                  have gF : Gr w WF := by rw [← hF]; exact (Gr.put8 HGT.out (by omega) _ _ _ _ _ _ _ _).trans (Gr.alloc (Gr.refl _) _)
                  have e0r := vF.cell (k := 0) (by simp)
                  have e1r := vF.cell (k := 1) (by simp)
                  have e2r := vF.cell (k := 2) (by simp)
                  have e3r := vF.cell (k := 3) (by simp)
                  have e4r := vF.cell (k := 4) (by simp)
                  have e5r := vF.cell (k := 5) (by simp)
                  have e6r := vF.cell (k := 6) (by simp)
                  have e7r := vF.cell (k := 7) (by simp)
                  clear hF vF
                  have hse := (HSE.out.wr wF (fun c hc hm => by have := (HEX.out c (by rw [FQe.out]; simpa using hc)).resolve_left (by simp); have := HG9.out.size; have := HS9.out; simp at hm; omega))
                  exact bodyPost_ret (v := .tuple #[.agg #[.int .i64 m, .int .i64 e0, .int .i64 e1, .int .i64 e2, .int .i64 e3, .string e4, .string e5, .slice ae6 e6.length ke6], .bool true])
                    (by simp [results, Tryz.results45, go_sem, e0r, e1r, e2r, e3r, e4r, e5r, e6r, e7r]) rfl ⟨_, _, by rw [HYES.out]; rfl, by rw [HYES.out]; exact rdDefinition_mk (m : Int) e0 e1 e2 e3 e4 e5 e6 HM.out he0 he1 he2 he3 he4 he5 hse, fun c hc => .inr (by have := (HEX.out c (by rw [FQe.out]; simpa using hc)).resolve_left (by simp); have := HG9.out.size; omega), gF⟩
            · have hor : O < 0 ∨ (t0.length : Int) - 1 < O := by omega
              have hno : defOf (g0, g1) t0 (x0, x1) = none := by rw [hdo, defAt_out hor]
              have HO2 := Lib.hid hor
              clear hdo hor hin
              go_wp2_with fail
              refine (isNode_no t0 O _ (Rd.gr HT.out (HGT.out.trans (by repeat (first | exact Gr.refl _ | apply Gr.ext | apply Gr.alloc | apply Gr.drew)))) HO2.out).mono ?_
              rintro e W8 ⟨rfl, g8⟩
              have HGT := Lib.hid (HGT.out.trans g8)
              have vR := VRow.gr HVB.out (gT.trans g8)
              have e0r := vR.cell (k := 0) (by simp)
              have f0r := vR.frozen 0
              have e1r := vR.cell (k := 1) (by simp)
              have f1r := vR.frozen 1
              have e2r := vR.cell (k := 2) (by simp)
              have f2r := vR.frozen 2
              have e3r := vR.cell (k := 3) (by simp)
              have f3r := vR.frozen 3
              have e4r := vR.cell (k := 4) (by simp)
              have f4r := vR.frozen 4
              have e5r := vR.cell (k := 5) (by simp)
              have f5r := vR.frozen 5
              have e6r := vR.cell (k := 6) (by simp)
              have f6r := vR.frozen 6
              have e7r := vR.cell (k := 7) (by simp)
              have f7r := vR.frozen 7
              have zer := blk e0r
              have HVR := Lib.hid vR
              clear vR
              clear g8
              have HNO := Lib.hid hno
              clear hno
              go_wp2_with fail
              clear e0r e1r e2r e3r e4r e5r e6r e7r f0r f1r f2r f3r f4r f5r f6r f7r
              generalize hF : ((((((((W8.setCell ⟨w.heap.size + 1 + 1 + 1, 0, none⟩ (.int .i64 0)).setCell ⟨w.heap.size + 1 + 1 + 1, 1, none⟩ (.int .i64 0)).setCell ⟨w.heap.size + 1 + 1 + 1, 2, none⟩ (.int .i64 0)).setCell ⟨w.heap.size + 1 + 1 + 1, 3, none⟩ (.int .i64 0)).setCell ⟨w.heap.size + 1 + 1 + 1, 4, none⟩ (.int .i64 0)).setCell ⟨w.heap.size + 1 + 1 + 1, 5, none⟩ (.string ⟨#[]⟩)).setCell ⟨w.heap.size + 1 + 1 + 1, 6, none⟩ (.string ⟨#[]⟩)).setCell ⟨w.heap.size + 1 + 1 + 1, 7, none⟩ (.slice none 0 0)) = WF
              have vF : VRow WF (w.heap.size + 1 + 1 + 1) 89 [.int .i64 0, .int .i64 0, .int .i64 0, .int .i64 0, .int .i64 0, .string ⟨#[]⟩, .string ⟨#[]⟩, .slice none 0 0] := by rw [← hF]; exact (VRow.put8 HVR.out _ _ _ _ _ _ _ _).gr (Gr.refl _)
              have wF : Wr [w.heap.size + 1 + 1 + 1] W8 WF := by rw [← hF]; exact (Wr.put8 _ _ _ _ _ _ _ _ _ _).gr (Gr.refl _)
              have gF : Gr w WF := by rw [← hF]; exact (Gr.put8 HGT.out (by omega) _ _ _ _ _ _ _ _).trans (Gr.refl _)
              have e0r := vF.cell (k := 0) (by simp)
              have e1r := vF.cell (k := 1) (by simp)
              have e2r := vF.cell (k := 2) (by simp)
              have e3r := vF.cell (k := 3) (by simp)
              have e4r := vF.cell (k := 4) (by simp)
              have e5r := vF.cell (k := 5) (by simp)
              have e6r := vF.cell (k := 6) (by simp)
              have e7r := vF.cell (k := 7) (by simp)
              clear hF vF
              exact bodyPost_ret (v := .tuple #[.agg #[.int .i64 0, .int .i64 0, .int .i64 0, .int .i64 0, .int .i64 0, .string ⟨#[]⟩, .string ⟨#[]⟩, .slice none 0 0], .bool false])
                (by simp [results, Tryz.results45, go_sem, e0r, e1r, e2r, e3r, e4r, e5r, e6r, e7r]) rfl ⟨_, _, by rw [HNO.out]; rfl, by rw [HNO.out]; exact zeroD_rd _, by simp, gF⟩
        · have hdo : defOf (g0, g1) t0 (x0, x1) = defAt (g0, g1) t0 O 0 x1 := by rw [HOn.out]; exact (defOf_own HAT.out hm3 hm1).trans (by rw [HN.out])
          have HWP := Lib.hid (show (Lit.int .i64 0).wf = true by decide)
          have HGT := Lib.hid (gB.trans gT)
          have y0 := bB0 _ gT
          have y1 := bB1 _ gT
          have y2 := bB2 _ gT
          have y3 := bB3 _ gT
          have y4 := bB4 _ gT
          have y5 := bB5 _ gT
          have y6 := bB6 _ gT
          have zy0 := blk y0
          have zy2 := blk y2
          have zy3 := blk y3
          have zca := blk ca0
          by_cases hin : 0 ≤ O ∧ O ≤ (t0.length : Int) - 1
          · obtain ⟨m, rfl⟩ : ∃ m : Nat, O = m := ⟨O.toNat, by omega⟩
            have hlt : m < t0.length := by omega
            have HDO := Lib.hid hdo
            have HIN := Lib.hid hin
            clear hdo hin
            have hgt := HGT.out
            obtain ⟨b, off, rfl, hbb⟩ := ot03 m hlt
            obtain ⟨csp, fep, hcp, hrp, -⟩ := ht0.at hlt
            obtain ⟨yp, hyp⟩ : ∃ y, y = t0[m] := ⟨_, rfl⟩
            rw [← hyp] at hrp
            have HYp := Lib.hid hyp
            have HRp := Lib.hid hrp
            obtain ⟨p0, p1, p2, p3, p4, p5⟩ := yp
            obtain ⟨vp5, fp5, hcsp, -, hp0, hp1, hp2, hp3, hp4, hp5⟩ := rdNode_inv (cs := csp.toArray) p0 p1 p2 p3 p4 p5 (by simpa using hrp)
            obtain rfl : csp = [.int .i64 p0, .int .i64 p1, .int .i64 p2, .int .i64 p3, .string p4, vp5] := by have := congrArg Array.toList hcsp; simpa using this
            obtain ⟨ap5, kp5, rfl, op51, op52, op53⟩ := hp5.open
            have pz0 := hgt.keep (show w.cell? ⟨b, off + m * 6, none⟩ = some (.int .i64 p0) from by simpa [Rd.n] using hcp 0 _ rfl)
            have pz1 := hgt.keep (show w.cell? ⟨b, off + m * 6 + 1, none⟩ = some (.int .i64 p1) from hcp 1 _ rfl)
            have pz2 := hgt.keep (show w.cell? ⟨b, off + m * 6 + 2, none⟩ = some (.int .i64 p2) from hcp 2 _ rfl)
            have pz3 := hgt.keep (show w.cell? ⟨b, off + m * 6 + 3, none⟩ = some (.int .i64 p3) from hcp 3 _ rfl)
            have pz4 := hgt.keep (show w.cell? ⟨b, off + m * 6 + 4, none⟩ = some (.string p4) from hcp 4 _ rfl)
            have pz5 := hgt.keep (show w.cell? ⟨b, off + m * 6 + 5, none⟩ = some (.slice ap5 p5.length kp5) from hcp 5 _ rfl)
            have pzb := blk pz0
            clear hcsp hcp hrp hyp
            have j0 : (0 : Int) ≤ (m : Int) := by omega
            have j1 : (m : Int) < (t0.length : Int) := by omega
            obtain ⟨Y, hY⟩ : ∃ Y, Y = (lookR g1 p4).getD zeroR := ⟨_, rfl⟩
            have hda := defAt_in (g := (g0, g1)) (p := 0) (n := x1) (y := Y) hlt (by rw [← HYp.out]; exact hY)
            have hwY : wtRule Y ≤ 1048576 := by rw [hY]; exact look_wt HWT.out p4
            have HDA := Lib.hid hda
            have HWY := Lib.hid hwY
            have HYY := Lib.hid hY
            clear hY hda hwY hgt
            go_wp2_with fail
            refine (isNode_yes t0 (m : Int) _ (Rd.gr HT.out (HGT.out.trans (by repeat (first | exact Gr.refl _ | apply Gr.ext | apply Gr.alloc | apply Gr.drew)))) HIN.out.1 HIN.out.2).mono ?_
            rintro e W8 ⟨rfl, g8⟩
            go_wp2_with fail
            have u0 := g8.keep y0
            have u1 := g8.keep y1
            have u2 := g8.keep y2
            have u3 := g8.keep y3
            have u4 := g8.keep y4
            have u5 := g8.keep y5
            have u6 := g8.keep y6
            have ua0 := g8.keep ca0
            have ua1 := g8.keep ca1
            have uq := g8.keep pz4
            have HG8 := Lib.hid (HGT.out.trans g8)
            have HB8 := Lib.hid (gT.trans g8)
            have zu0 := blk u0
            have zu2 := blk u2
            have zu3 := blk u3
            have zua := blk ua0
            have zuq := blk uq
            have k0 := fun (w' : World) (h : Gr W8 w') => h.keep u0
            have k1 := fun (w' : World) (h : Gr W8 w') => h.keep u1
            have k2 := fun (w' : World) (h : Gr W8 w') => h.keep u2
            have k3 := fun (w' : World) (h : Gr W8 w') => h.keep uq
            clear y0 y1 y2 y3 y4 y5 y6 ca0 ca1 pz0 pz1 pz2 pz3 pz4 pz5 g8
            go_cut [12] (fun s wr => BoxAt W8 Y s wr)
            case first =>
              go_region_held3 (fun w' => Gr W8 w') (first | assumption | exact Gr.drew (Gr.refl _) | (repeat (first | assumption | exact Gr.refl _ | apply Gr.ext | apply Gr.alloc | apply Gr.drew)))
                (first | (go_at_call 95; refine (implFindRule_any (g0, g1) p4 _ (Rd.gr HG.out (HG8.out.trans (by first | assumption | exact (by repeat (first | exact Gr.refl _ | apply Gr.ext | apply Gr.alloc | apply Gr.drew)))))).mono ?_; rintro e w' ⟨es, fq, rfl, hr, hfq, x2, rfl⟩; obtain ⟨ys, hys⟩ : ∃ y, y = (lookR g1 p4).getD zeroR := ⟨_, rfl⟩; have hr1s := hr; change Rd.rd fq _ es.toList ((lookR g1 p4).getD zeroR) at hr1s; rw [← hys] at hr1s; have HYs := Lib.hid hys; have HRs := Lib.hid hr1s; obtain ⟨s0, s1, s2, s3, s4, s5⟩ := ys; obtain ⟨vs2, fs2, vs4, fs4, vs5, fs5, rfl, hfqs, hs0, hs1, hs2, hs4, hs5⟩ := rdRule_inv s0 s1 s2 s3 s4 s5 hr1s; have FQs := Lib.hid hfqs; clear hfqs; obtain ⟨as2, ks2, rfl, os21, os22, os23⟩ := hs2.open; obtain ⟨as4, ks4, rfl, os41, os42, os43⟩ := hs4.open; obtain ⟨as5, ks5, rfl, os51, os52, os53⟩ := hs5.open; clear hr hr1s hys; obtain ⟨b2, hb2⟩ : ∃ b : Bool, b = (lookR g1 p4).isSome := ⟨_, rfl⟩; rw [← hb2]; have Hb2 := Lib.hid hb2; clear hb2))
              all_goals
                go_wp2_with fail
                go_meet
                have hY : Y = (s0, s1, s2, s3, s4, s5) := HYY.out.trans HYs.out.symm
                subst hY
                have hnb : ∀ c ∈ fq, c < w.heap.size ∨ _ ≤ c := fun c hc => (hfq c hc).imp (Rd.lt HG.out c) id
                have hw8 := HG8.out.size
                refine ⟨_, [.string s0, .string s1, .slice as2 s2.length ks2, .bool s3, .slice as4 s4.length ks4, .slice as5 s5.length ks5], fq, rfl, (by repeat (first | exact Gr.refl _ | apply Gr.ext | apply Gr.alloc | apply Gr.drew)), fun j u hj => ?_, ?_, by first | omega | (simp; done) | (simp; omega)⟩
                · match j, hj with
                  | 0, hj => obtain rfl := Option.some.inj hj; repeat (first | ((with_reducible refine box_cell ?_ ?_) <;> first | omega | (simp; done) | (simp; omega) | rfl) | (with_reducible refine Gr.keep (Gr.alloc (Gr.refl _) _) ?_) | (with_reducible refine Gr.keep (Gr.ext (Gr.refl _) _) ?_) | (with_reducible refine Gr.keep (Gr.drew (Gr.refl _)) ?_))
                  | 1, hj => obtain rfl := Option.some.inj hj; repeat (first | ((with_reducible refine box_cell ?_ ?_) <;> first | omega | (simp; done) | (simp; omega) | rfl) | (with_reducible refine Gr.keep (Gr.alloc (Gr.refl _) _) ?_) | (with_reducible refine Gr.keep (Gr.ext (Gr.refl _) _) ?_) | (with_reducible refine Gr.keep (Gr.drew (Gr.refl _)) ?_))
                  | 2, hj => obtain rfl := Option.some.inj hj; repeat (first | ((with_reducible refine box_cell ?_ ?_) <;> first | omega | (simp; done) | (simp; omega) | rfl) | (with_reducible refine Gr.keep (Gr.alloc (Gr.refl _) _) ?_) | (with_reducible refine Gr.keep (Gr.ext (Gr.refl _) _) ?_) | (with_reducible refine Gr.keep (Gr.drew (Gr.refl _)) ?_))
                  | 3, hj => obtain rfl := Option.some.inj hj; repeat (first | ((with_reducible refine box_cell ?_ ?_) <;> first | omega | (simp; done) | (simp; omega) | rfl) | (with_reducible refine Gr.keep (Gr.alloc (Gr.refl _) _) ?_) | (with_reducible refine Gr.keep (Gr.ext (Gr.refl _) _) ?_) | (with_reducible refine Gr.keep (Gr.drew (Gr.refl _)) ?_))
                  | 4, hj => obtain rfl := Option.some.inj hj; repeat (first | ((with_reducible refine box_cell ?_ ?_) <;> first | omega | (simp; done) | (simp; omega) | rfl) | (with_reducible refine Gr.keep (Gr.alloc (Gr.refl _) _) ?_) | (with_reducible refine Gr.keep (Gr.ext (Gr.refl _) _) ?_) | (with_reducible refine Gr.keep (Gr.drew (Gr.refl _)) ?_))
                  | 5, hj => obtain rfl := Option.some.inj hj; repeat (first | ((with_reducible refine box_cell ?_ ?_) <;> first | omega | (simp; done) | (simp; omega) | rfl) | (with_reducible refine Gr.keep (Gr.alloc (Gr.refl _) _) ?_) | (with_reducible refine Gr.keep (Gr.ext (Gr.refl _) _) ?_) | (with_reducible refine Gr.keep (Gr.drew (Gr.refl _)) ?_))
                · first
                    | (refine Rd.gr HRs.out ?_; (repeat (first | exact Gr.refl _ | apply Gr.ext | apply Gr.alloc | apply Gr.drew)); done)
                    | ((with_reducible refine Rd.mono (sameOn_box ?_) HRs.out); exact fun c hc e => by subst e; have := hnb _ hc; simp at this; omega)
                    | ((with_reducible refine Rd.mono (sameOn_box2 ?_) HRs.out); exact fun c hc e => by subst e; have := hnb _ hc; simp at this; omega)
                    | ((with_reducible refine Rd.mono (sameOn_boxd ?_) HRs.out); exact fun c hc e => by subst e; have := hnb _ hc; simp at this; omega)
            case rest =>
              obtain ⟨b12, cs12, f12, rfl, g9, hcs, hrd, hb12⟩ := hcut
              rename World => W9
              obtain ⟨s0, s1, s2, s3, s4, s5⟩ := Y
              obtain ⟨vs2, fs2, vs4, fs4, vs5, fs5, hcc, -, hs0, hs1, hs2, hs4, hs5⟩ := rdRule_inv (cs := cs12.toArray) s0 s1 s2 s3 s4 s5 (by simpa using hrd)
              obtain rfl : cs12 = [.string s0, .string s1, vs2, .bool s3, vs4, vs5] := by have := congrArg Array.toList hcc; simpa using this
              have HRD := Lib.hid hrd
              have c0 := hcs 0 _ rfl
              have c1 := hcs 1 _ rfl
              have c2 := hcs 2 _ rfl
              have c3 := hcs 3 _ rfl
              have c4 := hcs 4 _ rfl
              have c5 := hcs 5 _ rfl
              have zc0 := blk c0
              have v3 := g9.keep u3
              have v4 := g9.keep u4
              have v5 := g9.keep u5
              have v6 := g9.keep u6
              have va0 := g9.keep ua0
              have va1 := g9.keep ua1
              have zv3 := blk v3
              have zv5 := blk v5
              have zva := blk va0
              have HG9 := Lib.hid (HG8.out.trans g9)
              have HB9 := Lib.hid (HB8.out.trans g9)
              have HS9 := Lib.hid (VRow.gr HVB.out HB9.out).lt
              clear hcs hrd hcc k0 k1 k2 k3 u0 u1 u2 u3 u4 u5 u6 ua0 ua1 uq g9 hs0 hs1 hs2 hs4 hs5
              go_wp2_with fail
              refine (implFindEq_any (s0, s1, s2, s3, s4, s5) (0, x1) _ (Rd.gr HRD.out (by repeat (first | exact Gr.refl _ | apply Gr.ext | apply Gr.alloc | apply Gr.drew))) (rdOccurrence_mk 0 x1 HWP.out HX1.out) HWY.out).mono ?_
              rintro e W10 ⟨es, fq, rfl, hr, hfq, g10⟩
              obtain ⟨ye, hye⟩ : ∃ y, y = (eqnOf s4 (0, x1)).getD zeroX := ⟨_, rfl⟩; have hr1e := hr; change Rd.rd fq _ es.toList ((eqnOf s4 (0, x1)).getD zeroX) at hr1e; rw [← hye] at hr1e; have HYe := Lib.hid hye; have HRe := Lib.hid hr1e; obtain ⟨e0, e1, e2, e3, e4, e5, e6⟩ := ye; obtain ⟨ve6, fe6, rfl, hfqe, he0, he1, he2, he3, he4, he5, he6⟩ := rdExpr_inv e0 e1 e2 e3 e4 e5 e6 hr1e; have FQe := Lib.hid hfqe; clear hfqe; obtain ⟨ae6, ke6, rfl, oe61, oe62, oe63⟩ := he6.open; clear hr hr1e hye; obtain ⟨b3, hb3⟩ : ∃ b : Bool, b = (eqnOf s4 (0, x1)).isSome := ⟨_, rfl⟩; rw [← hb3]; have Hb3 := Lib.hid hb3; clear hb3
              have HG10 := Lib.hid (HG9.out.trans g10)
              have HB10 := Lib.hid (HB9.out.trans g10)
              have vR := VRow.gr HVB.out (HB10.out)
              have e0r := vR.cell (k := 0) (by simp)
              have f0r := vR.frozen 0
              have e1r := vR.cell (k := 1) (by simp)
              have f1r := vR.frozen 1
              have e2r := vR.cell (k := 2) (by simp)
              have f2r := vR.frozen 2
              have e3r := vR.cell (k := 3) (by simp)
              have f3r := vR.frozen 3
              have e4r := vR.cell (k := 4) (by simp)
              have f4r := vR.frozen 4
              have e5r := vR.cell (k := 5) (by simp)
              have f5r := vR.frozen 5
              have e6r := vR.cell (k := 6) (by simp)
              have f6r := vR.frozen 6
              have e7r := vR.cell (k := 7) (by simp)
              have f7r := vR.frozen 7
              have zer := blk e0r
              have HVR := Lib.hid vR
              clear vR
              clear g10
              cases b3 with
              | false =>
                have hno : defOf (g0, g1) t0 (x0, x1) = none := by rw [HDO.out, HDA.out, none_of_isSome Hb3.out.symm]; rfl
                have HGT := HG10
                have HNO := Lib.hid hno
                clear hno
                go_wp2_with fail
                clear e0r e1r e2r e3r e4r e5r e6r e7r f0r f1r f2r f3r f4r f5r f6r f7r
                generalize hF : (((((((((W10.setCell ⟨w.heap.size + 1 + 1 + 1, 0, none⟩ (.int .i64 0)).setCell ⟨w.heap.size + 1 + 1 + 1, 1, none⟩ (.int .i64 0)).setCell ⟨w.heap.size + 1 + 1 + 1, 2, none⟩ (.int .i64 0)).setCell ⟨w.heap.size + 1 + 1 + 1, 3, none⟩ (.int .i64 0)).setCell ⟨w.heap.size + 1 + 1 + 1, 4, none⟩ (.int .i64 0)).setCell ⟨w.heap.size + 1 + 1 + 1, 5, none⟩ (.string ⟨#[]⟩)).setCell ⟨w.heap.size + 1 + 1 + 1, 6, none⟩ (.string ⟨#[]⟩)).setCell ⟨w.heap.size + 1 + 1 + 1, 7, none⟩ (.slice none 0 0)).alloc (.cells #[.int .i64 e0, .int .i64 e1, .int .i64 e2, .int .i64 e3, .string e4, .string e5, .slice ae6 e6.length ke6] 87)) = WF
                have vF : VRow WF (w.heap.size + 1 + 1 + 1) 89 [.int .i64 0, .int .i64 0, .int .i64 0, .int .i64 0, .int .i64 0, .string ⟨#[]⟩, .string ⟨#[]⟩, .slice none 0 0] := by rw [← hF]; exact (VRow.put8 HVR.out _ _ _ _ _ _ _ _).gr (Gr.alloc (Gr.refl _) _)
                have wF : Wr [w.heap.size + 1 + 1 + 1] W10 WF := by rw [← hF]; exact (Wr.put8 _ _ _ _ _ _ _ _ _ _).gr (Gr.alloc (Gr.refl _) _)
                have gF : Gr w WF := by rw [← hF]; exact (Gr.put8 HGT.out (by omega) _ _ _ _ _ _ _ _).trans (Gr.alloc (Gr.refl _) _)
                have e0r := vF.cell (k := 0) (by simp)
                have e1r := vF.cell (k := 1) (by simp)
                have e2r := vF.cell (k := 2) (by simp)
                have e3r := vF.cell (k := 3) (by simp)
                have e4r := vF.cell (k := 4) (by simp)
                have e5r := vF.cell (k := 5) (by simp)
                have e6r := vF.cell (k := 6) (by simp)
                have e7r := vF.cell (k := 7) (by simp)
                clear hF vF
                exact bodyPost_ret (v := .tuple #[.agg #[.int .i64 0, .int .i64 0, .int .i64 0, .int .i64 0, .int .i64 0, .string ⟨#[]⟩, .string ⟨#[]⟩, .slice none 0 0], .bool false])
                  (by simp [results, Tryz.results45, go_sem, e0r, e1r, e2r, e3r, e4r, e5r, e6r, e7r]) rfl ⟨_, _, by rw [HNO.out]; rfl, by rw [HNO.out]; exact zeroD_rd _, by simp, gF⟩
              | true =>
                have hyes : defOf (g0, g1) t0 (x0, x1) = some ((m : Int), (e0, e1, e2, e3, e4, e5, e6)) := by rw [HDO.out, HDA.out, some_of_getD Hb3.out.symm HYe.out.symm]; rfl
                have HYES := Lib.hid hyes
                have HM := Lib.hid (wf_small (y := (m : Int)) (by omega) (by have := ot02; omega))
                have HEX := Lib.hid hfq
                clear hyes hfq
                have HGT := HG10
                have HSE := Lib.hid he6
                clear he6
                go_wp2_with fail
                clear e0r e1r e2r e3r e4r e5r e6r e7r f0r f1r f2r f3r f4r f5r f6r f7r
                generalize hF : (((((((((W10.setCell ⟨w.heap.size + 1 + 1 + 1, 0, none⟩ (.int .i64 m)).setCell ⟨w.heap.size + 1 + 1 + 1, 1, none⟩ (.int .i64 e0)).setCell ⟨w.heap.size + 1 + 1 + 1, 2, none⟩ (.int .i64 e1)).setCell ⟨w.heap.size + 1 + 1 + 1, 3, none⟩ (.int .i64 e2)).setCell ⟨w.heap.size + 1 + 1 + 1, 4, none⟩ (.int .i64 e3)).setCell ⟨w.heap.size + 1 + 1 + 1, 5, none⟩ (.string e4)).setCell ⟨w.heap.size + 1 + 1 + 1, 6, none⟩ (.string e5)).setCell ⟨w.heap.size + 1 + 1 + 1, 7, none⟩ (.slice ae6 e6.length ke6)).alloc (.cells #[.int .i64 e0, .int .i64 e1, .int .i64 e2, .int .i64 e3, .string e4, .string e5, .slice ae6 e6.length ke6] 87)) = WF
                have vF : VRow WF (w.heap.size + 1 + 1 + 1) 89 [.int .i64 m, .int .i64 e0, .int .i64 e1, .int .i64 e2, .int .i64 e3, .string e4, .string e5, .slice ae6 e6.length ke6] := by rw [← hF]; exact (VRow.put8 HVR.out _ _ _ _ _ _ _ _).gr (Gr.alloc (Gr.refl _) _)
                have wF : Wr [w.heap.size + 1 + 1 + 1] W10 WF := by rw [← hF]; exact (Wr.put8 _ _ _ _ _ _ _ _ _ _).gr (Gr.alloc (Gr.refl _) _)
                have gF : Gr w WF := by rw [← hF]; exact (Gr.put8 HGT.out (by omega) _ _ _ _ _ _ _ _).trans (Gr.alloc (Gr.refl _) _)
                have e0r := vF.cell (k := 0) (by simp)
                have e1r := vF.cell (k := 1) (by simp)
                have e2r := vF.cell (k := 2) (by simp)
                have e3r := vF.cell (k := 3) (by simp)
                have e4r := vF.cell (k := 4) (by simp)
                have e5r := vF.cell (k := 5) (by simp)
                have e6r := vF.cell (k := 6) (by simp)
                have e7r := vF.cell (k := 7) (by simp)
                clear hF vF
                have hse := (HSE.out.wr wF (fun c hc hm => by have := (HEX.out c (by rw [FQe.out]; simpa using hc)).resolve_left (by simp); have := HG9.out.size; have := HS9.out; simp at hm; omega))
                exact bodyPost_ret (v := .tuple #[.agg #[.int .i64 m, .int .i64 e0, .int .i64 e1, .int .i64 e2, .int .i64 e3, .string e4, .string e5, .slice ae6 e6.length ke6], .bool true])
                  (by simp [results, Tryz.results45, go_sem, e0r, e1r, e2r, e3r, e4r, e5r, e6r, e7r]) rfl ⟨_, _, by rw [HYES.out]; rfl, by rw [HYES.out]; exact rdDefinition_mk (m : Int) e0 e1 e2 e3 e4 e5 e6 HM.out he0 he1 he2 he3 he4 he5 hse, fun c hc => .inr (by have := (HEX.out c (by rw [FQe.out]; simpa using hc)).resolve_left (by simp); have := HG9.out.size; omega), gF⟩
          · have hor : O < 0 ∨ (t0.length : Int) - 1 < O := by omega
            have hno : defOf (g0, g1) t0 (x0, x1) = none := by rw [hdo, defAt_out hor]
            have HO2 := Lib.hid hor
            clear hdo hor hin
            go_wp2_with fail
            refine (isNode_no t0 O _ (Rd.gr HT.out (HGT.out.trans (by repeat (first | exact Gr.refl _ | apply Gr.ext | apply Gr.alloc | apply Gr.drew)))) HO2.out).mono ?_
            rintro e W8 ⟨rfl, g8⟩
            have HGT := Lib.hid (HGT.out.trans g8)
            have vR := VRow.gr HVB.out (gT.trans g8)
            have e0r := vR.cell (k := 0) (by simp)
            have f0r := vR.frozen 0
            have e1r := vR.cell (k := 1) (by simp)
            have f1r := vR.frozen 1
            have e2r := vR.cell (k := 2) (by simp)
            have f2r := vR.frozen 2
            have e3r := vR.cell (k := 3) (by simp)
            have f3r := vR.frozen 3
            have e4r := vR.cell (k := 4) (by simp)
            have f4r := vR.frozen 4
            have e5r := vR.cell (k := 5) (by simp)
            have f5r := vR.frozen 5
            have e6r := vR.cell (k := 6) (by simp)
            have f6r := vR.frozen 6
            have e7r := vR.cell (k := 7) (by simp)
            have f7r := vR.frozen 7
            have zer := blk e0r
            have HVR := Lib.hid vR
            clear vR
            clear g8
            have HNO := Lib.hid hno
            clear hno
            go_wp2_with fail
            clear e0r e1r e2r e3r e4r e5r e6r e7r f0r f1r f2r f3r f4r f5r f6r f7r
            generalize hF : ((((((((W8.setCell ⟨w.heap.size + 1 + 1 + 1, 0, none⟩ (.int .i64 0)).setCell ⟨w.heap.size + 1 + 1 + 1, 1, none⟩ (.int .i64 0)).setCell ⟨w.heap.size + 1 + 1 + 1, 2, none⟩ (.int .i64 0)).setCell ⟨w.heap.size + 1 + 1 + 1, 3, none⟩ (.int .i64 0)).setCell ⟨w.heap.size + 1 + 1 + 1, 4, none⟩ (.int .i64 0)).setCell ⟨w.heap.size + 1 + 1 + 1, 5, none⟩ (.string ⟨#[]⟩)).setCell ⟨w.heap.size + 1 + 1 + 1, 6, none⟩ (.string ⟨#[]⟩)).setCell ⟨w.heap.size + 1 + 1 + 1, 7, none⟩ (.slice none 0 0)) = WF
            have vF : VRow WF (w.heap.size + 1 + 1 + 1) 89 [.int .i64 0, .int .i64 0, .int .i64 0, .int .i64 0, .int .i64 0, .string ⟨#[]⟩, .string ⟨#[]⟩, .slice none 0 0] := by rw [← hF]; exact (VRow.put8 HVR.out _ _ _ _ _ _ _ _).gr (Gr.refl _)
            have wF : Wr [w.heap.size + 1 + 1 + 1] W8 WF := by rw [← hF]; exact (Wr.put8 _ _ _ _ _ _ _ _ _ _).gr (Gr.refl _)
            have gF : Gr w WF := by rw [← hF]; exact (Gr.put8 HGT.out (by omega) _ _ _ _ _ _ _ _).trans (Gr.refl _)
            have e0r := vF.cell (k := 0) (by simp)
            have e1r := vF.cell (k := 1) (by simp)
            have e2r := vF.cell (k := 2) (by simp)
            have e3r := vF.cell (k := 3) (by simp)
            have e4r := vF.cell (k := 4) (by simp)
            have e5r := vF.cell (k := 5) (by simp)
            have e6r := vF.cell (k := 6) (by simp)
            have e7r := vF.cell (k := 7) (by simp)
            clear hF vF
            exact bodyPost_ret (v := .tuple #[.agg #[.int .i64 0, .int .i64 0, .int .i64 0, .int .i64 0, .int .i64 0, .string ⟨#[]⟩, .string ⟨#[]⟩, .slice none 0 0], .bool false])
              (by simp [results, Tryz.results45, go_sem, e0r, e1r, e2r, e3r, e4r, e5r, e6r, e7r]) rfl ⟨_, _, by rw [HNO.out]; rfl, by rw [HNO.out]; exact zeroD_rd _, by simp, gF⟩
end Go.Proofs.YtbfmeiooeaaibaaGreat
