/- The source of an instance: the reference's. No condition. -/
import Derived.Test.YtbfmeiooeaaibaaGreatXSrcP
import Derived.Test.YtbfmeiooeaaibaaGreatDefS
import Derived.Test.YtbfmeiooeaaibaaGreatXNid
namespace Go.Proofs.YtbfmeiooeaaibaaGreat
open Go.RowKit
variable {d : Nat}
set_option linter.unusedVariables false
set_option linter.unusedSimpArgs false

set_option maxRecDepth 100000 in
set_option maxHeartbeats 16000000 in
theorem specSrc_any {fg : List Nat} {cg : Array Value} (g : (GGrammar d)) {ft : List Nat} {ct : Array Value} (t : GTree) {fx : List Nat} {cx : Array Value} (x : GInstance) (w : World) (hg : Rd.rd fg w cg.toList g) (ht : Rd.rd ft w ct.toList t) (hx : Rd.rd fx w cx.toList x) (hl : wtGrammar g ≤ 1048576) (hl2 : wtTree t ≤ 1048576) :
    Calls Tryz.prog 9 #[.agg cg, .agg ct, .agg cx] w (Made w (srcOf g t x)) := by
  obtain ⟨i0, hi, hz0, hz1, hz2⟩ := info_parts Tryz.infoIntC
  have HZ := Lib.hid (And.intro hi (And.intro hz0 (And.intro hz1 hz2)))
  clear hi hz0 hz1 hz2
  have HWT := Lib.hid hl
  have HWT2 := Lib.hid hl2
  clear hl hl2
  have HG := Lib.hid hg
  obtain ⟨g0, g1⟩ := g
  obtain ⟨vg0, fg0, vg1, fg1, rfl, hfpg, hg0, hg1⟩ := rdGrammar_inv g0 g1 hg
  have FPg := Lib.hid hfpg
  clear hfpg
  obtain ⟨ag0, kg0, rfl, og01, og02, og03⟩ := hg0.open
  obtain ⟨ag1, kg1, rfl, og11, og12, og13⟩ := hg1.open
  clear hg
  have HT := Lib.hid ht
  obtain ⟨t0, rfl⟩ : ∃ y, y = t := ⟨t, rfl⟩
  obtain ⟨vt0, ft0, rfl, hfpt, ht0⟩ := rdTree_inv t0 ht
  have FPt := Lib.hid hfpt
  clear hfpt
  obtain ⟨at0, kt0, rfl, ot01, ot02, ot03⟩ := ht0.open
  clear ht
  have HX := Lib.hid hx
  obtain ⟨x0, x1⟩ := x
  obtain ⟨rfl, hfpx, hx0, hx1⟩ := rdInstance_inv x0 x1 hx
  have FPx := Lib.hid hfpx
  clear hfpx
  clear hx
  have HX0 := Lib.hid hx0
  have HX1 := Lib.hid hx1
  have hlen : t0.length ≤ 1048576 := Nat.le_trans (wtL_len wtNode t0) HWT2.out
  go_enter Tryz.func9, Tryz.ntmps9
  go_wp2_with fail
  refine (specAttr_any (g0, g1) t0 (x0, x1) _ (Rd.gr HG.out (by repeat (first | exact Gr.refl _ | apply Gr.ext | apply Gr.alloc | apply Gr.drew))) (Rd.gr HT.out (by repeat (first | exact Gr.refl _ | apply Gr.ext | apply Gr.alloc | apply Gr.drew))) (Rd.gr HX.out (by repeat (first | exact Gr.refl _ | apply Gr.ext | apply Gr.alloc | apply Gr.drew))) HWT.out).mono ?_
  rintro e w' ⟨es, fq, rfl, hr, -, z1, rfl⟩
  obtain ⟨ya, hya⟩ : ∃ y, y = (attrOf (g0, g1) t0 (x0, x1)).getD zeroA := ⟨_, rfl⟩; have hr1a := hr; change Rd.rd fq _ es.toList ((attrOf (g0, g1) t0 (x0, x1)).getD zeroA) at hr1a; rw [← hya] at hr1a; have HYa := Lib.hid hya; have HRa := Lib.hid hr1a; obtain ⟨a0, a1, a2, a3⟩ := ya; obtain ⟨rfl, hfqa, ha0, ha1, ha2⟩ := rdAttribute_inv a0 a1 a2 a3 hr1a; have FQa := Lib.hid hfqa; clear hfqa; clear hr hr1a hya; obtain ⟨bb, hbb⟩ : ∃ b : Bool, b = (attrOf (g0, g1) t0 (x0, x1)).isSome := ⟨_, rfl⟩; rw [← hbb]; have Hbb := Lib.hid hbb; clear hbb
  generalize hB0 : (((w.alloc (.cells #[.slice ag0 g0.length kg0, .slice ag1 g1.length kg1] 43)).alloc (.cells #[.slice at0 t0.length kt0] 47)).alloc (.cells #[.int .i64 x0, .string x1] 34)) = B0
  have gB0 : Gr w B0 := by rw [← hB0]; exact (by repeat (first | exact Gr.refl _ | apply Gr.ext | apply Gr.alloc | apply Gr.drew))
  have bB00 : ∀ w' : World, Gr B0 w' → w'.cell? ⟨w.heap.size, 0, none⟩ = some (.slice ag0 g0.length kg0) := fun w' hg => hg.keep (by rw [← hB0]; repeat (first | ((with_reducible refine box_cell ?_ ?_) <;> first | omega | (simp; done) | (simp; omega) | rfl) | (with_reducible refine Gr.keep (Gr.alloc (Gr.refl _) _) ?_) | (with_reducible refine Gr.keep (Gr.ext (Gr.refl _) _) ?_) | (with_reducible refine Gr.keep (Gr.drew (Gr.refl _)) ?_)))
  have bB01 : ∀ w' : World, Gr B0 w' → w'.cell? ⟨w.heap.size, 1, none⟩ = some (.slice ag1 g1.length kg1) := fun w' hg => hg.keep (by rw [← hB0]; repeat (first | ((with_reducible refine box_cell ?_ ?_) <;> first | omega | (simp; done) | (simp; omega) | rfl) | (with_reducible refine Gr.keep (Gr.alloc (Gr.refl _) _) ?_) | (with_reducible refine Gr.keep (Gr.ext (Gr.refl _) _) ?_) | (with_reducible refine Gr.keep (Gr.drew (Gr.refl _)) ?_)))
  have bB02 : ∀ w' : World, Gr B0 w' → w'.cell? ⟨w.heap.size + 1, 0, none⟩ = some (.slice at0 t0.length kt0) := fun w' hg => hg.keep (by rw [← hB0]; repeat (first | ((with_reducible refine box_cell ?_ ?_) <;> first | omega | (simp; done) | (simp; omega) | rfl) | (with_reducible refine Gr.keep (Gr.alloc (Gr.refl _) _) ?_) | (with_reducible refine Gr.keep (Gr.ext (Gr.refl _) _) ?_) | (with_reducible refine Gr.keep (Gr.drew (Gr.refl _)) ?_)))
  have bB03 : ∀ w' : World, Gr B0 w' → w'.cell? ⟨w.heap.size + 1 + 1, 0, none⟩ = some (.int .i64 x0) := fun w' hg => hg.keep (by rw [← hB0]; repeat (first | ((with_reducible refine box_cell ?_ ?_) <;> first | omega | (simp; done) | (simp; omega) | rfl) | (with_reducible refine Gr.keep (Gr.alloc (Gr.refl _) _) ?_) | (with_reducible refine Gr.keep (Gr.ext (Gr.refl _) _) ?_) | (with_reducible refine Gr.keep (Gr.drew (Gr.refl _)) ?_)))
  have bB04 : ∀ w' : World, Gr B0 w' → w'.cell? ⟨w.heap.size + 1 + 1, 1, none⟩ = some (.string x1) := fun w' hg => hg.keep (by rw [← hB0]; repeat (first | ((with_reducible refine box_cell ?_ ?_) <;> first | omega | (simp; done) | (simp; omega) | rfl) | (with_reducible refine Gr.keep (Gr.alloc (Gr.refl _) _) ?_) | (with_reducible refine Gr.keep (Gr.ext (Gr.refl _) _) ?_) | (with_reducible refine Gr.keep (Gr.drew (Gr.refl _)) ?_)))
  have bB05 : ∀ w' : World, Gr B0 w' → w'.cell? ⟨w.heap.size + 2, 0, none⟩ = some (.int .i64 x0) := fun w' hg => hg.keep (by rw [← hB0]; repeat (first | ((with_reducible refine box_cell ?_ ?_) <;> first | omega | (simp; done) | (simp; omega) | rfl) | (with_reducible refine Gr.keep (Gr.alloc (Gr.refl _) _) ?_) | (with_reducible refine Gr.keep (Gr.ext (Gr.refl _) _) ?_) | (with_reducible refine Gr.keep (Gr.drew (Gr.refl _)) ?_)))
  have bB06 : ∀ w' : World, Gr B0 w' → w'.cell? ⟨w.heap.size + 2, 1, none⟩ = some (.string x1) := fun w' hg => hg.keep (by rw [← hB0]; repeat (first | ((with_reducible refine box_cell ?_ ?_) <;> first | omega | (simp; done) | (simp; omega) | rfl) | (with_reducible refine Gr.keep (Gr.alloc (Gr.refl _) _) ?_) | (with_reducible refine Gr.keep (Gr.ext (Gr.refl _) _) ?_) | (with_reducible refine Gr.keep (Gr.drew (Gr.refl _)) ?_)))
  have sB0 : B0.heap.size = w.heap.size + 3 := by rw [← hB0]; first | (simp; done) | (simp; omega)
  have EB0 := Lib.hid hB0
  clear hB0
  generalize hB : (((B0.alloc (.cells #[.int .i64 0, .string ⟨#[]⟩, .int .i64 0, .int .i64 0, .int .i64 0, .string ⟨#[]⟩, .slice none 0 0, .slice none 0 0, .slice none 0 0] 38)).alloc (.cells #[.int .i64 x0, .string x1, .int .i64 0, .int .i64 0, .int .i64 0, .string ⟨#[]⟩, .slice none 0 0, .slice none 0 0, .slice none 0 0] 38)).ext z1) = B
  have g0B : Gr B0 B := by rw [← hB]; exact (by repeat (first | exact Gr.refl _ | apply Gr.ext | apply Gr.alloc | apply Gr.drew))
  have v3 : VRow B (w.heap.size + 1 + 1 + 1) 38 [.int .i64 0, .string ⟨#[]⟩, .int .i64 0, .int .i64 0, .int .i64 0, .string ⟨#[]⟩, .slice none 0 0, .slice none 0 0, .slice none 0 0] := by
    rw [← hB]
    repeat (first | ((with_reducible refine VRow.new ?_) <;> first | omega | (simp; done) | (simp; omega) | rfl) | (with_reducible refine VRow.gr ?_ (Gr.alloc (Gr.refl _) _)) | (with_reducible refine VRow.gr ?_ (Gr.ext (Gr.refl _) _)) | (with_reducible refine VRow.gr ?_ (Gr.drew (Gr.refl _))))
  have v4 : VRow B (w.heap.size + 1 + 1 + 1 + 1) 38 [.int .i64 x0, .string x1, .int .i64 0, .int .i64 0, .int .i64 0, .string ⟨#[]⟩, .slice none 0 0, .slice none 0 0, .slice none 0 0] := by
    rw [← hB]
    repeat (first | ((with_reducible refine VRow.new ?_) <;> first | omega | (simp; done) | (simp; omega) | rfl) | (with_reducible refine VRow.gr ?_ (Gr.alloc (Gr.refl _) _)) | (with_reducible refine VRow.gr ?_ (Gr.ext (Gr.refl _) _)) | (with_reducible refine VRow.gr ?_ (Gr.drew (Gr.refl _))))
  have HV3 := Lib.hid v3
  have HV4 := Lib.hid v4
  have hA4 := v4.lt
  have hB0s : B0.heap.size ≤ w.heap.size + 1 + 1 + 1 := by omega
  have HS0 := Lib.hid sB0
  clear hB v3 v4 sB0
  have y0 := bB00 _ g0B
  have y1 := bB01 _ g0B
  have y2 := bB02 _ g0B
  have y3 := bB03 _ g0B
  have y4 := bB04 _ g0B
  have y5 := bB05 _ g0B
  have y6 := bB06 _ g0B
  have zy0 := blk y0
  have zy2 := blk y2
  have zy3 := blk y3
  have zy5 := blk y5
  have HGB := Lib.hid (gB0.trans g0B)
  have HB00 := Lib.hid gB0
  have H0B := Lib.hid g0B
  by_cases hm3 : a2 = 3
  · subst hm3
    obtain rfl : bb = true := by
      cases hbb : bb with
      | true => rfl
      | false =>
        have h1 := none_of_isSome (Hbb.out.symm.trans hbb)
        have h2 := HYa.out
        rw [h1] at h2
        have h3 := congrArg (fun a : GAttribute => a.2.2.1) h2
        simp [zeroA] at h3
    have HSRC := Lib.hid (srcOf_coll HYa.out rfl)
    go_wp2_with fail
    generalize hC : B.alloc (.cells #[.string a0, .int .i64 a1, .int .i64 3, .bool a3] 79) = C
    have gBC : Gr B C := by rw [← hC]; exact (by repeat (first | exact Gr.refl _ | apply Gr.ext | apply Gr.alloc | apply Gr.drew))
    have HBC := Lib.hid gBC
    have hsC := gBC.size
    have hB0C := (H0B.out.trans gBC).size
    clear hC y0 y1 y2 y3 y4 y5 y6 gBC
    go_loopw [10] (fun s10 wr => ∃ (k : Nat) (fps : List (List Nat)) (s7 : Value), k ≤ t0.length ∧ Hid (fps.flatten = []) ∧ Gr B0 wr ∧ C.heap.size ≤ wr.heap.size ∧ Hid (VRow wr (w.heap.size + 1 + 1 + 1) 38 [.int .i64 0, .string ⟨#[]⟩, .int .i64 0, .int .i64 0, .int .i64 0, .string ⟨#[]⟩, .slice none 0 0, .slice none 0 0, .slice none 0 0]) ∧ Hid (VRow wr (w.heap.size + 1 + 1 + 1 + 1) 38 [.int .i64 x0, .string x1, .int .i64 0, .int .i64 0, .int .i64 0, .string ⟨#[]⟩, .slice none 0 0, s7, .slice none 0 0]) ∧ OwnR (α := Int) C 3 wr s7 fps ((t0.take k).flatMap (shapeN (g0, g1))) ∧ s10 = .int .i64 k) (fun s10 _ => t0.length - (intOf s10).toNat)
    case atStart => exact ⟨0, [], .slice none 0 0, by omega, Lib.hid rfl, H0B.out.trans HBC.out, Nat.le_refl _, Lib.hid (HV3.out.gr HBC.out), Lib.hid (HV4.out.gr HBC.out), OwnR.nil C C 3, rfl⟩
    case round =>
      obtain ⟨k, fps, s7, hk, HF, hg, hsW, HW3, HW4, hown, rfl⟩ := hrel
      rename World => W3
      have HGR := Lib.hid hg
      have HO := Lib.hid hown
      obtain ⟨ra, rc, hform⟩ := hown.form
      obtain ⟨M, hM⟩ : ∃ M, M = (t0.take k).flatMap (shapeN (g0, g1)) := ⟨_, rfl⟩
      have hMl : M.length ≤ 3145728 := by
        have h1 := shape_len (g0, g1) (t0.take k)
        rw [← hM, List.length_take] at h1
        omega
      rw [← hM] at hform
      have HM2 := Lib.hid hM
      have y0 := bB00 _ hg
      have y1 := bB01 _ hg
      have y2 := bB02 _ hg
      have zy0 := blk y0
      have zy2 := blk y2
      have hgw := HB00.out.trans hg
      have HGW := Lib.hid hgw
      subst hform
      clear hg hown hM
      by_cases hlt : k < t0.length
      · skip
        obtain ⟨b, off, rfl, hbb⟩ := ot03 k hlt
        obtain ⟨csq, feq, hcq, hrq, -⟩ := ht0.at hlt
        obtain ⟨yq, hyq⟩ : ∃ y, y = t0[k] := ⟨_, rfl⟩
        rw [← hyq] at hrq
        have HYq := Lib.hid hyq
        have HRq := Lib.hid hrq
        obtain ⟨q0, q1, q2, q3, q4, q5⟩ := yq
        obtain ⟨vq5, fq5, hcsq, -, hq0, hq1, hq2, hq3, hq4, hq5⟩ := rdNode_inv (cs := csq.toArray) q0 q1 q2 q3 q4 q5 (by simpa using hrq)
        obtain rfl : csq = [.int .i64 q0, .int .i64 q1, .int .i64 q2, .int .i64 q3, .string q4, vq5] := by have := congrArg Array.toList hcsq; simpa using this
        obtain ⟨aq5, kq5, rfl, oq51, oq52, oq53⟩ := hq5.open
        have qz0 := hgw.keep (show w.cell? ⟨b, off + k * 6, none⟩ = some (.int .i64 q0) from by simpa [Rd.n] using hcq 0 _ rfl)
        have qz1 := hgw.keep (show w.cell? ⟨b, off + k * 6 + 1, none⟩ = some (.int .i64 q1) from hcq 1 _ rfl)
        have qz2 := hgw.keep (show w.cell? ⟨b, off + k * 6 + 2, none⟩ = some (.int .i64 q2) from hcq 2 _ rfl)
        have qz3 := hgw.keep (show w.cell? ⟨b, off + k * 6 + 3, none⟩ = some (.int .i64 q3) from hcq 3 _ rfl)
        have qz4 := hgw.keep (show w.cell? ⟨b, off + k * 6 + 4, none⟩ = some (.string q4) from hcq 4 _ rfl)
        have qz5 := hgw.keep (show w.cell? ⟨b, off + k * 6 + 5, none⟩ = some (.slice aq5 q5.length kq5) from hcq 5 _ rfl)
        have qzb := blk qz0
        clear hcsq hcq hrq hyq
        have HQ := Lib.hid (And.intro hq0 hq3)
        have HRI := Lib.hid (ruleIx_wf (g := (g0, g1)) og12 q4)
        obtain ⟨NX, hNX⟩ : ∃ NX, NX = (t0.take k).flatMap (shapeN (g0, g1)) ++ [q0, ruleIx (g0, g1) q4, q3] := ⟨_, rfl⟩
        have HNX := Lib.hid hNX
        have htk : (t0.take (k + 1)).flatMap (shapeN (g0, g1)) = NX := by rw [hNX, List.take_succ_eq_append_getElem hlt, List.flatMap_append, ← HYq.out]; rfl
        have HTK := Lib.hid htk
        have j0 : (0 : Int) ≤ (k : Int) := by omega
        have j1 : (k : Int) < (t0.length : Int) := by omega
        have e7 := HW4.out.cell (k := 7) (by simp)
        have hA4W : w.heap.size + 1 + 1 + 1 + 1 < W3.heap.size := blk e7
        have hnb : w.heap.size + 1 + 1 + 1 + 1 ∉ (Value.slice ra M.length rc).ownBlock.toList := fun hm => by
          have := (HO.out.base _ (by simpa using hm)).1
          omega
        have HNB := Lib.hid hnb
        have hnb3 : w.heap.size + 1 + 1 + 1 ∉ (Value.slice ra M.length rc).ownBlock.toList := fun hm => by
          have := (HO.out.base _ (by simpa using hm)).1
          omega
        have HNB3 := Lib.hid hnb3
        clear htk hNX hq0 hq1 hq2 hq3 hq4 hq5 hgw hnb hnb3
        have HNBB := Lib.hid (show b ∉ (Value.slice ra M.length rc).ownBlock.toList from fun hm => by
          have h1 := (HO.out.base _ (by simpa using hm)).1
          have h2 := HB00.out.size
          omega)
        have HE7 := Lib.hid e7
        have kk0 := fun (w' : World) (h : Wr (Value.slice ra M.length rc).ownBlock.toList W3 w') => h.keepC e7 HNB.out
        have kk1 := fun (w' : World) (h : Gr B0 w') => bB00 _ h
        have kk2 := fun (w' : World) (h : Gr B0 w') => bB01 _ h
        have kk3 := fun (w' : World) (h : Gr B0 w') => bB02 _ h
        have kk4 := fun (w' : World) (h : Wr (Value.slice ra M.length rc).ownBlock.toList W3 w') => h.keepC qz0 HNBB.out
        have kk5 := fun (w' : World) (h : Wr (Value.slice ra M.length rc).ownBlock.toList W3 w') => h.keepC qz4 HNBB.out
        have kk6 := fun (w' : World) (h : Wr (Value.slice ra M.length rc).ownBlock.toList W3 w') => h.keepC qz3 HNBB.out
        go_wp2_with fail
        refine wp_region_U (fun w' => Wr (Value.slice ra M.length rc).ownBlock.toList W3 w' ∧ Gr B0 w') 25 (by kernel_rfl) (⟨(Gr.drew (Gr.refl W3)).toWr _, HGR.out.drew⟩) (fun hU => ?_)
        refine anyU_take (i := 0) (v := ?_) rfl (by kernel_rfl) (by kernel_rfl) (by kernel_rfl) (by kernel_rfl) (fun _ _ _ h => h) (Or.inl ⟨by rfl, ?_⟩) (by assumption) ?_
        rotate_left 1
        · intro w hSw; (try dsimp only at hSw); go_simp; all_goals with_reducible rfl
        try simp only [Act.put, List.setIfInBounds_toArray, List.set_cons_zero, List.set_cons_succ]
        refine anyU_take (i := 2) (v := ?_) rfl (by kernel_rfl) (by kernel_rfl) (by kernel_rfl) (by kernel_rfl) (fun _ _ _ h => h) (Or.inl ⟨by rfl, ?_⟩) (by assumption) ?_
        rotate_left 1
        · intro w hSw; (try dsimp only at hSw); go_simp; all_goals with_reducible rfl
        try simp only [Act.put, List.setIfInBounds_toArray, List.set_cons_zero, List.set_cons_succ]
        refine anyU_take (i := 4) (v := ?_) rfl (by kernel_rfl) (by kernel_rfl) (by kernel_rfl) (by kernel_rfl) (fun _ _ _ h => h) (Or.inl ⟨by rfl, ?_⟩) (by assumption) ?_
        rotate_left 1
        · intro w hSw; (try dsimp only at hSw); go_simp; all_goals with_reducible rfl
        try simp only [Act.put, List.setIfInBounds_toArray, List.set_cons_zero, List.set_cons_succ]
        refine anyU_take (i := 8) (v := ?_) rfl (by kernel_rfl) (by kernel_rfl) (by kernel_rfl) (by kernel_rfl) (fun _ _ _ h => h) (Or.inl ⟨by rfl, ?_⟩) (by assumption) ?_
        rotate_left 1
        · intro w hSw; (try dsimp only at hSw); go_simp; all_goals with_reducible rfl
        try simp only [Act.put, List.setIfInBounds_toArray, List.set_cons_zero, List.set_cons_succ]
        refine anyU_take (i := 9) (v := ?_) rfl (by kernel_rfl) (by kernel_rfl) (by kernel_rfl) (by kernel_rfl) (fun _ _ _ h => h) (Or.inl ⟨by rfl, ?_⟩) (by assumption) ?_
        rotate_left 1
        · intro w hSw; (try dsimp only at hSw); go_simp; all_goals with_reducible rfl
        try simp only [Act.put, List.setIfInBounds_toArray, List.set_cons_zero, List.set_cons_succ]
        refine anyU_take (i := 11) (v := ?_) rfl (by kernel_rfl) (by kernel_rfl) (by kernel_rfl) (by kernel_rfl) (fun _ _ _ h => h) (Or.inl ⟨by rfl, ?_⟩) (by assumption) ?_
        rotate_left 1
        · intro w hSw; (try dsimp only at hSw); go_simp; all_goals with_reducible rfl
        try simp only [Act.put, List.setIfInBounds_toArray, List.set_cons_zero, List.set_cons_succ]
        refine anyU_take (i := 16) (v := ?_) rfl (by kernel_rfl) (by kernel_rfl) (by kernel_rfl) (by kernel_rfl) (fun _ _ _ h => h) (Or.inl ⟨by rfl, ?_⟩) (by assumption) ?_
        rotate_left 1
        · intro w hSw; (try dsimp only at hSw); go_simp; all_goals with_reducible rfl
        try simp only [Act.put, List.setIfInBounds_toArray, List.set_cons_zero, List.set_cons_succ]
        refine anyU_take (i := 18) (v := ?_) rfl (by kernel_rfl) (by kernel_rfl) (by kernel_rfl) (by kernel_rfl) (fun _ _ _ h => h) (Or.inl ⟨by rfl, ?_⟩) (by assumption) ?_
        rotate_left 1
        · intro w hSw; (try dsimp only at hSw); go_simp; all_goals with_reducible rfl
        try simp only [Act.put, List.setIfInBounds_toArray, List.set_cons_zero, List.set_cons_succ]
        refine anyU_take (i := 1) (v := ?_) rfl (by kernel_rfl) (by kernel_rfl) (by kernel_rfl) (by kernel_rfl) (fun _ _ _ h => h) (Or.inl ⟨by rfl, ?_⟩) (by assumption) ?_
        rotate_left 1
        · intro w hSw; (try dsimp only at hSw); go_simp; all_goals with_reducible rfl
        try simp only [Act.put, List.setIfInBounds_toArray, List.set_cons_zero, List.set_cons_succ]
        refine anyU_take (i := 3) (v := ?_) rfl (by kernel_rfl) (by kernel_rfl) (by kernel_rfl) (by kernel_rfl) (fun _ _ _ h => h) (Or.inl ⟨by rfl, ?_⟩) (by assumption) ?_
        rotate_left 1
        · intro w hSw; (try dsimp only at hSw); go_simp; all_goals with_reducible rfl
        try simp only [Act.put, List.setIfInBounds_toArray, List.set_cons_zero, List.set_cons_succ]
        refine anyU_take (i := 10) (v := ?_) rfl (by kernel_rfl) (by kernel_rfl) (by kernel_rfl) (by kernel_rfl) (fun _ _ _ h => h) (Or.inl ⟨by rfl, ?_⟩) (by assumption) ?_
        rotate_left 1
        · intro w hSw; (try dsimp only at hSw); go_simp; all_goals with_reducible rfl
        try simp only [Act.put, List.setIfInBounds_toArray, List.set_cons_zero, List.set_cons_succ]
        refine anyU_take (i := 17) (v := ?_) rfl (by kernel_rfl) (by kernel_rfl) (by kernel_rfl) (by kernel_rfl) (fun _ _ _ h => h) (Or.inl ⟨by rfl, ?_⟩) (by assumption) ?_
        rotate_left 1
        · intro w hSw; (try dsimp only at hSw); go_simp; all_goals with_reducible rfl
        try simp only [Act.put, List.setIfInBounds_toArray, List.set_cons_zero, List.set_cons_succ]
        refine anyU_take (i := 5) (v := ?_) rfl (by kernel_rfl) (by kernel_rfl) (by kernel_rfl) (by kernel_rfl) (fun _ _ _ h => h) (Or.inl ⟨by rfl, ?_⟩) (by assumption) ?_
        rotate_left 1
        · intro w hSw; (try dsimp only at hSw); go_simp; all_goals with_reducible rfl
        try simp only [Act.put, List.setIfInBounds_toArray, List.set_cons_zero, List.set_cons_succ]
        refine anyU_take (i := 12) (v := ?_) rfl (by kernel_rfl) (by kernel_rfl) (by kernel_rfl) (by kernel_rfl) (fun _ _ _ h => h) (Or.inl ⟨by rfl, ?_⟩) (by assumption) ?_
        rotate_left 1
        · intro w hSw; (try dsimp only at hSw); go_simp; all_goals with_reducible rfl
        try simp only [Act.put, List.setIfInBounds_toArray, List.set_cons_zero, List.set_cons_succ]
        refine anyU_take (i := 19) (v := ?_) rfl (by kernel_rfl) (by kernel_rfl) (by kernel_rfl) (by kernel_rfl) (fun _ _ _ h => h) (Or.inl ⟨by rfl, ?_⟩) (by assumption) ?_
        rotate_left 1
        · intro w hSw; (try dsimp only at hSw); go_simp; all_goals with_reducible rfl
        try simp only [Act.put, List.setIfInBounds_toArray, List.set_cons_zero, List.set_cons_succ]
        refine anyU_take (i := 6) (v := ?_) rfl (by kernel_rfl) (by kernel_rfl) (by kernel_rfl) (by kernel_rfl) (fun _ _ _ h => h) (Or.inl ⟨by rfl, ?_⟩) (by assumption) ?_
        rotate_left 1
        · intro w hSw; (try dsimp only at hSw); go_simp; all_goals with_reducible rfl
        try simp only [Act.put, List.setIfInBounds_toArray, List.set_cons_zero, List.set_cons_succ]
        refine anyU_take (i := 13) (v := ?_) rfl (by kernel_rfl) (by kernel_rfl) (by kernel_rfl) (by kernel_rfl) (fun _ _ _ h => h) (Or.inl ⟨by rfl, ?_⟩) (by assumption) ?_
        rotate_left 1
        · intro w hSw; (try dsimp only at hSw); go_simp; all_goals with_reducible rfl
        try simp only [Act.put, List.setIfInBounds_toArray, List.set_cons_zero, List.set_cons_succ]
        refine anyU_take (i := 20) (v := ?_) rfl (by kernel_rfl) (by kernel_rfl) (by kernel_rfl) (by kernel_rfl) (fun _ _ _ h => h) (Or.inl ⟨by rfl, ?_⟩) (by assumption) ?_
        rotate_left 1
        · intro w hSw; (try dsimp only at hSw); go_simp; all_goals with_reducible rfl
        try simp only [Act.put, List.setIfInBounds_toArray, List.set_cons_zero, List.set_cons_succ]
        refine anyU_take (i := 7) (v := ?_) rfl (by kernel_rfl) (by kernel_rfl) (by kernel_rfl) (by kernel_rfl) (fun _ _ _ h => h) (Or.inl ⟨by rfl, ?_⟩) (by assumption) ?_
        rotate_left 1
        · intro w hSw; (try dsimp only at hSw); go_simp; all_goals with_reducible rfl
        try simp only [Act.put, List.setIfInBounds_toArray, List.set_cons_zero, List.set_cons_succ]
        refine anyU_take (i := 14) (v := ?_) rfl (by kernel_rfl) (by kernel_rfl) (by kernel_rfl) (by kernel_rfl) (fun _ _ _ h => h) (Or.inl ⟨by rfl, ?_⟩) (by assumption) ?_
        rotate_left 1
        · intro w hSw; (try dsimp only at hSw); go_simp; all_goals with_reducible rfl
        try simp only [Act.put, List.setIfInBounds_toArray, List.set_cons_zero, List.set_cons_succ]
        refine anyU_take (i := 21) (v := ?_) rfl (by kernel_rfl) (by kernel_rfl) (by kernel_rfl) (by kernel_rfl) (fun _ _ _ h => h) (Or.inl ⟨by rfl, ?_⟩) (by assumption) ?_
        rotate_left 1
        · intro w hSw; (try dsimp only at hSw); go_simp; all_goals with_reducible rfl
        try simp only [Act.put, List.setIfInBounds_toArray, List.set_cons_zero, List.set_cons_succ]
        refine anyU_ready (rs := [15]) (by kernel_rfl) (by simp) ?_
        refine (ReadyU.cons rfl (fun K hK => ?_) ReadyU.nil)
        go_simp
        go_at_call 36
        refine (l36Rule_any (g0, g1) q4 _ (Rd.gr HG.out (HGW.out.trans (by repeat (first | exact Gr.refl _ | apply Gr.ext | apply Gr.alloc | apply Gr.drew))))).mono ?_
        rintro e w' ⟨rfl, x4, rfl⟩
        rw [show ruleIxL (g0, g1).2 q4 = ruleIx (g0, g1) q4 from rfl]
        refine hK.out _ _ ⟨((by repeat (first | exact Gr.refl _ | apply Gr.ext | apply Gr.alloc | apply Gr.drew)) : Gr W3 (W3.drew.ext x4)).toWr _, HGR.out.trans (by repeat (first | exact Gr.refl _ | apply Gr.ext | apply Gr.alloc | apply Gr.drew))⟩ (fun hU1 => ?_)
        clear hK K
        try simp only [Act.put, List.setIfInBounds_toArray, List.set_cons_zero, List.set_cons_succ]
        refine anyU_ready (rs := [22]) (by kernel_rfl) (by simp) ?_
        refine (ReadyU.cons rfl (fun K hK => ?_) ReadyU.nil)
        go_simp
        refine hK.out _ _ ⟨((by repeat (first | exact Gr.refl _ | apply Gr.ext | apply Gr.alloc | apply Gr.drew)) : Gr W3 ((W3.drew.ext x4).alloc (.cells #[.int .i64 q0, .int .i64 (ruleIx (g0, g1) q4), .int .i64 q3] 3))).toWr _, HGR.out.trans (by repeat (first | exact Gr.refl _ | apply Gr.ext | apply Gr.alloc | apply Gr.drew))⟩ (fun hU2 => ?_)
        clear hK K
        try simp only [Act.put, List.setIfInBounds_toArray, List.set_cons_zero, List.set_cons_succ]
        refine anyU_ready (rs := [23]) (by kernel_rfl) (by simp) ?_
        refine (ReadyU.cons rfl (fun K hK => ?_) ReadyU.nil)
        refine step_append_RB (α := Int) (wg := B0) (w0 := C) (HGR.out.trans (by repeat (first | exact Gr.refl _ | apply Gr.ext | apply Gr.alloc | apply Gr.drew))) hB0C (Nat.le_trans hsW (Gr.size ((by repeat (first | exact Gr.refl _ | apply Gr.ext | apply Gr.alloc | apply Gr.drew)) : Gr W3 ((W3.drew.ext x4).alloc (.cells #[.int .i64 q0, .int .i64 (ruleIx (g0, g1) q4), .int .i64 q3] 3))))) (by rfl) _ _ _ (by rfl) 3 i0 (.int .i64 0) 8 Tryz.underlying35 HZ.out.1 HZ.out.2.1 HZ.out.2.2.1 HZ.out.2.2.2 rfl (.slice ra M.length rc) fps _ (by rfl) (HO.out.gr (by repeat (first | exact Gr.refl _ | apply Gr.ext | apply Gr.alloc | apply Gr.drew))) _ [[], [], []] [q0, ruleIx (g0, g1) q4, q3] (by rfl) (SrcR.int3 (by first | rfl | (simp; done) | (simp; omega)) HQ.out.1 HRI.out HQ.out.2) (fun b _ => by simp) (by rw [← HM2.out]; unfold maxLen; simp; omega) (by rw [← HM2.out]; simp; omega) ?_
        intro v9 w9 k1 k2 k3 k4
        rw [← HNX.out] at k1
        obtain ⟨va, vc, rfl⟩ := k1.form
        have g9 : Gr W3 ((W3.drew.ext x4).alloc (.cells #[.int .i64 q0, .int .i64 (ruleIx (g0, g1) q4), .int .i64 q3] 3)) := (by repeat (first | exact Gr.refl _ | apply Gr.ext | apply Gr.alloc | apply Gr.drew))
        have v4 := (HW4.out.gr g9).wr k2 HNB.out
        have v3 := (HW3.out.gr g9).wr k2 HNB3.out
        have h7 := v4.cell (k := 7) (by simp)
        have f7 := v4.frozen 7
        have z7 := blk h7
        have hw9 : Wr (Value.slice ra M.length rc).ownBlock.toList W3 w9 := (g9.toWr _).trans k2
        have hs9 := hw9.size
        replace v3 := Lib.hid v3
        replace v4 := Lib.hid v4
        replace k1 := Lib.hid k1
        replace k2 := Lib.hid k2
        replace k3 := Lib.hid k3
        replace k4 := Lib.hid k4
        clear g9
        refine hK.out _ _ ⟨hw9, k4.out⟩ (fun hU3 => ?_)
        clear hK K
        try simp only [Act.put, List.setIfInBounds_toArray, List.set_cons_zero, List.set_cons_succ]
        refine anyU_take (i := 24) (v := ?_) rfl (by kernel_rfl) (by kernel_rfl) (by kernel_rfl) (by kernel_rfl) (fun _ _ _ h => h) (Or.inl ⟨by rfl, ?_⟩) (by assumption) ?_
        rotate_left 1
        · intro w hSw; (try dsimp only at hSw); go_simp; all_goals with_reducible rfl
        try simp only [Act.put, List.setIfInBounds_toArray, List.set_cons_zero, List.set_cons_succ]
        refine anyU_ready (rs := [25]) (by kernel_rfl) (by simp) ?_
        refine ReadyU.last rfl (fun K hK => ?_)
        go_simp
        refine hK.out _ _ ?_
        clear hK K
        try simp only [Act.put, List.setIfInBounds_toArray, List.set_cons_zero, List.set_cons_succ]
        refine anyU_done (by kernel_rfl) ?_ _
        go_wp2_with fail
        refine ⟨⟨k + 1, fps ++ [[], [], []], .slice va NX.length vc, by omega, Lib.hid (by rw [List.flatten_append, HF.out]; rfl), Gr.setCell (p := ⟨w.heap.size + 1 + 1 + 1 + 1, 7, none⟩) k4.out (show B0.heap.size ≤ w.heap.size + 1 + 1 + 1 + 1 by omega) (.slice va NX.length vc), ?_, Lib.hid (v3.out.ne (by omega)), Lib.hid (v4.out.set 7 (.slice va NX.length vc)), ?_, by go_num⟩, by simp [intOf]; omega⟩
        · have := k2.out.size
          simp at this ⊢
          omega
        · have h1 : OwnR C 3 w9 (.slice va NX.length vc) (fps ++ [[], [], []]) ((t0.take (k + 1)).flatMap (shapeN (g0, g1))) := by rw [HTK.out]; exact k1.out
          exact h1.setOld (by rw [List.flatten_append, HF.out]; exact Fresh.nil _) (by omega)
      · have hk2 : k = t0.length := by omega
        subst hk2
        have hfr := HO.out.fresh (by rw [← HM2.out]; unfold reachLen; omega) (by rw [HF.out]; exact Fresh.nil _)
        obtain ⟨fq, hs, hf⟩ := hfr
        rw [← HM2.out] at hs
        have HS := Lib.hid hs
        have HFQ := Lib.hid hf
        have HN := Lib.hid (show shapeOf (g0, g1) t0 = M by rw [HM2.out, List.take_length]; rfl)
        clear hs hf
        have o0 := (HW4.out).cell (k := 0) (by simp)
        have o1 := (HW4.out).cell (k := 1) (by simp)
        have o2 := (HW4.out).cell (k := 2) (by simp)
        have o3 := (HW4.out).cell (k := 3) (by simp)
        have o4 := (HW4.out).cell (k := 4) (by simp)
        have o5 := (HW4.out).cell (k := 5) (by simp)
        have o6 := (HW4.out).cell (k := 6) (by simp)
        have o7 := (HW4.out).cell (k := 7) (by simp)
        have o8 := (HW4.out).cell (k := 8) (by simp)
        have zo := blk o0
        have r0 := (HW3.out).cell (k := 0) (by simp)
        have r1 := (HW3.out).cell (k := 1) (by simp)
        have r2 := (HW3.out).cell (k := 2) (by simp)
        have r3 := (HW3.out).cell (k := 3) (by simp)
        have r4 := (HW3.out).cell (k := 4) (by simp)
        have r5 := (HW3.out).cell (k := 5) (by simp)
        have r6 := (HW3.out).cell (k := 6) (by simp)
        have r7 := (HW3.out).cell (k := 7) (by simp)
        have r8 := (HW3.out).cell (k := 8) (by simp)
        have t0' := (HW3.out).frozen 0
        have t1' := (HW3.out).frozen 1
        have t2' := (HW3.out).frozen 2
        have t3' := (HW3.out).frozen 3
        have t4' := (HW3.out).frozen 4
        have t5' := (HW3.out).frozen 5
        have t6' := (HW3.out).frozen 6
        have t7' := (HW3.out).frozen 7
        have t8' := (HW3.out).frozen 8
        have zr := blk r0
        go_wp2_with fail
        clear r0 r1 r2 r3 r4 r5 r6 r7 r8 t0' t1' t2' t3' t4' t5' t6' t7' t8'
        generalize hF : (((((((((W3.setCell ⟨w.heap.size + 1 + 1 + 1, 0, none⟩ (.int .i64 x0)).setCell ⟨w.heap.size + 1 + 1 + 1, 1, none⟩ (.string x1)).setCell ⟨w.heap.size + 1 + 1 + 1, 2, none⟩ (.int .i64 0)).setCell ⟨w.heap.size + 1 + 1 + 1, 3, none⟩ (.int .i64 0)).setCell ⟨w.heap.size + 1 + 1 + 1, 4, none⟩ (.int .i64 0)).setCell ⟨w.heap.size + 1 + 1 + 1, 5, none⟩ (.string ⟨#[]⟩)).setCell ⟨w.heap.size + 1 + 1 + 1, 6, none⟩ (.slice none 0 0)).setCell ⟨w.heap.size + 1 + 1 + 1, 7, none⟩ (.slice ra M.length rc)).setCell ⟨w.heap.size + 1 + 1 + 1, 8, none⟩ (.slice none 0 0)) = WF
        have vF : VRow WF (w.heap.size + 1 + 1 + 1) 38 [.int .i64 x0, .string x1, .int .i64 0, .int .i64 0, .int .i64 0, .string ⟨#[]⟩, .slice none 0 0, .slice ra M.length rc, .slice none 0 0] := by rw [← hF]; exact (VRow.put9 HW3.out _ _ _ _ _ _ _ _ _).gr (Gr.refl _)
        have wF : Wr [w.heap.size + 1 + 1 + 1] W3 WF := by rw [← hF]; exact (Wr.put9 _ _ _ _ _ _ _ _ _ _ _).gr (Gr.refl _)
        have gF : Gr w WF := by rw [← hF]; exact (Gr.put9 HGW.out (by omega) _ _ _ _ _ _ _ _ _).trans (Gr.refl _)
        have r0 := vF.cell (k := 0) (by simp)
        have r1 := vF.cell (k := 1) (by simp)
        have r2 := vF.cell (k := 2) (by simp)
        have r3 := vF.cell (k := 3) (by simp)
        have r4 := vF.cell (k := 4) (by simp)
        have r5 := vF.cell (k := 5) (by simp)
        have r6 := vF.cell (k := 6) (by simp)
        have r7 := vF.cell (k := 7) (by simp)
        have r8 := vF.cell (k := 8) (by simp)
        clear hF vF
        obtain ⟨fr, h1, h2, h3⟩ := entry_rd HX0.out HX1.out wf0 wf0 (r := ⟨#[]⟩) (by decide) (SlR.nil WF) (HS.out.wr wF (fun b hb hm => by have := HFQ.out.2 b hb; simp at hm; omega)) (SlR.nil WF)
        exact bodyPost_ret (v := .agg #[.int .i64 x0, .string x1, .int .i64 0, .int .i64 0, .int .i64 0, .string ⟨#[]⟩, .slice none 0 0, .slice ra M.length rc, .slice none 0 0])
          (by simp [results, Tryz.results9, go_sem, r0, r1, r2, r3, r4, r5, r6, r7, r8]) rfl ⟨_, fr, rfl, by rw [HSRC.out, HN.out]; exact h1, ⟨h3 (by simpa using HFQ.out.1), fun b hb => by have := HFQ.out.2 b (by simpa using (h2 b).1 hb); omega⟩, gF⟩
  · have HSRC := Lib.hid (srcOf_def HYa.out hm3)
    cases bb with
    | false =>
      have hno : defOf (g0, g1) t0 (x0, x1) = none := defOf_none (none_of_isSome Hbb.out.symm)
      have HNO := Lib.hid hno
      clear hno
      go_wp2_with fail
      generalize hC : B.alloc (.cells #[.string a0, .int .i64 a1, .int .i64 a2, .bool a3] 79) = C
      have gBC : Gr B C := by rw [← hC]; exact (by repeat (first | exact Gr.refl _ | apply Gr.ext | apply Gr.alloc | apply Gr.drew))
      clear hC y0 y1 y2 y3 y4 y5 y6
      refine (specDef_any (g0, g1) t0 (x0, x1) _ (Rd.gr HG.out (HGB.out.trans gBC)) (Rd.gr HT.out (HGB.out.trans gBC)) (Rd.gr HX.out (HGB.out.trans gBC)) HWT.out).mono ?_
      rintro e W5 ⟨es, fq, rfl, hr, hfq, g5⟩
      obtain ⟨ye, hye⟩ : ∃ y, y = (defOf (g0, g1) t0 (x0, x1)).getD zeroD := ⟨_, rfl⟩; have hr1e := hr; change Rd.rd fq _ es.toList ((defOf (g0, g1) t0 (x0, x1)).getD zeroD) at hr1e; rw [← hye] at hr1e; have HYe := Lib.hid hye; have HRe := Lib.hid hr1e; obtain ⟨e0, ⟨e10, e11, e12, e13, e14, e15, e16⟩⟩ := ye; obtain ⟨ve16, fe16, rfl, hfqe, he0, he10, he11, he12, he13, he14, he15, he16⟩ := rdDefinition_inv e0 e10 e11 e12 e13 e14 e15 e16 hr1e; have FQe := Lib.hid hfqe; clear hfqe; obtain ⟨ae16, ke16, rfl, oe161, oe162, oe163⟩ := he16.open; clear hr hr1e hye; obtain ⟨b3, hb3⟩ : ∃ b : Bool, b = (defOf (g0, g1) t0 (x0, x1)).isSome := ⟨_, rfl⟩; rw [← hb3]; have Hb3 := Lib.hid hb3; clear hb3
      have HB5 := Lib.hid (gBC.trans g5)
      have H05 := Lib.hid (H0B.out.trans HB5.out)
      have HG5 := Lib.hid (HB00.out.trans H05.out)
      have hs5 := HB5.out.size
      clear gBC g5 hfq
      obtain rfl : b3 = false := by rw [Hb3.out, HNO.out]; rfl
      have HS2 := Lib.hid (HSRC.out.trans (srcD_none (none_of_isSome Hb3.out.symm)))
      have o0 := ((HV4.out.gr HB5.out)).cell (k := 0) (by simp)
      have o1 := ((HV4.out.gr HB5.out)).cell (k := 1) (by simp)
      have o2 := ((HV4.out.gr HB5.out)).cell (k := 2) (by simp)
      have o3 := ((HV4.out.gr HB5.out)).cell (k := 3) (by simp)
      have o4 := ((HV4.out.gr HB5.out)).cell (k := 4) (by simp)
      have o5 := ((HV4.out.gr HB5.out)).cell (k := 5) (by simp)
      have o6 := ((HV4.out.gr HB5.out)).cell (k := 6) (by simp)
      have o7 := ((HV4.out.gr HB5.out)).cell (k := 7) (by simp)
      have o8 := ((HV4.out.gr HB5.out)).cell (k := 8) (by simp)
      have zo := blk o0
      have r0 := ((HV3.out.gr HB5.out)).cell (k := 0) (by simp)
      have r1 := ((HV3.out.gr HB5.out)).cell (k := 1) (by simp)
      have r2 := ((HV3.out.gr HB5.out)).cell (k := 2) (by simp)
      have r3 := ((HV3.out.gr HB5.out)).cell (k := 3) (by simp)
      have r4 := ((HV3.out.gr HB5.out)).cell (k := 4) (by simp)
      have r5 := ((HV3.out.gr HB5.out)).cell (k := 5) (by simp)
      have r6 := ((HV3.out.gr HB5.out)).cell (k := 6) (by simp)
      have r7 := ((HV3.out.gr HB5.out)).cell (k := 7) (by simp)
      have r8 := ((HV3.out.gr HB5.out)).cell (k := 8) (by simp)
      have t0' := ((HV3.out.gr HB5.out)).frozen 0
      have t1' := ((HV3.out.gr HB5.out)).frozen 1
      have t2' := ((HV3.out.gr HB5.out)).frozen 2
      have t3' := ((HV3.out.gr HB5.out)).frozen 3
      have t4' := ((HV3.out.gr HB5.out)).frozen 4
      have t5' := ((HV3.out.gr HB5.out)).frozen 5
      have t6' := ((HV3.out.gr HB5.out)).frozen 6
      have t7' := ((HV3.out.gr HB5.out)).frozen 7
      have t8' := ((HV3.out.gr HB5.out)).frozen 8
      have zr := blk r0
      go_wp2_with fail
      clear r0 r1 r2 r3 r4 r5 r6 r7 r8 t0' t1' t2' t3' t4' t5' t6' t7' t8'
      generalize hF : ((((((((((W5.setCell ⟨w.heap.size + 1 + 1 + 1, 0, none⟩ (.int .i64 x0)).setCell ⟨w.heap.size + 1 + 1 + 1, 1, none⟩ (.string x1)).setCell ⟨w.heap.size + 1 + 1 + 1, 2, none⟩ (.int .i64 0)).setCell ⟨w.heap.size + 1 + 1 + 1, 3, none⟩ (.int .i64 0)).setCell ⟨w.heap.size + 1 + 1 + 1, 4, none⟩ (.int .i64 0)).setCell ⟨w.heap.size + 1 + 1 + 1, 5, none⟩ (.string ⟨#[]⟩)).setCell ⟨w.heap.size + 1 + 1 + 1, 6, none⟩ (.slice none 0 0)).setCell ⟨w.heap.size + 1 + 1 + 1, 7, none⟩ (.slice none 0 0)).setCell ⟨w.heap.size + 1 + 1 + 1, 8, none⟩ (.slice none 0 0)).alloc (.cells #[.int .i64 e0, .int .i64 e10, .int .i64 e11, .int .i64 e12, .int .i64 e13, .string e14, .string e15, .slice ae16 e16.length ke16] 89)) = WF
      have vF : VRow WF (w.heap.size + 1 + 1 + 1) 38 [.int .i64 x0, .string x1, .int .i64 0, .int .i64 0, .int .i64 0, .string ⟨#[]⟩, .slice none 0 0, .slice none 0 0, .slice none 0 0] := by rw [← hF]; exact (VRow.put9 (HV3.out.gr HB5.out) _ _ _ _ _ _ _ _ _).gr (Gr.alloc (Gr.refl _) _)
      have wF : Wr [w.heap.size + 1 + 1 + 1] W5 WF := by rw [← hF]; exact (Wr.put9 _ _ _ _ _ _ _ _ _ _ _).gr (Gr.alloc (Gr.refl _) _)
      have gF : Gr w WF := by rw [← hF]; exact (Gr.put9 HG5.out (by omega) _ _ _ _ _ _ _ _ _).trans (Gr.alloc (Gr.refl _) _)
      have r0 := vF.cell (k := 0) (by simp)
      have r1 := vF.cell (k := 1) (by simp)
      have r2 := vF.cell (k := 2) (by simp)
      have r3 := vF.cell (k := 3) (by simp)
      have r4 := vF.cell (k := 4) (by simp)
      have r5 := vF.cell (k := 5) (by simp)
      have r6 := vF.cell (k := 6) (by simp)
      have r7 := vF.cell (k := 7) (by simp)
      have r8 := vF.cell (k := 8) (by simp)
      clear hF vF
      obtain ⟨fr, h1, h2, h3⟩ := entry_rd HX0.out HX1.out wf0 wf0 (r := ⟨#[]⟩) (by decide) (SlR.nil WF) (SlR.nil WF) (SlR.nil WF)
      exact bodyPost_ret (v := .agg #[.int .i64 x0, .string x1, .int .i64 0, .int .i64 0, .int .i64 0, .string ⟨#[]⟩, .slice none 0 0, .slice none 0 0, .slice none 0 0])
        (by simp [results, Tryz.results9, go_sem, r0, r1, r2, r3, r4, r5, r6, r7, r8]) rfl ⟨_, fr, rfl, by rw [HS2.out]; exact h1, ⟨h3 (by simp), fun b hb => by simpa using (h2 b).1 hb⟩, gF⟩
    | true =>
      go_wp2_with fail
      generalize hC : B.alloc (.cells #[.string a0, .int .i64 a1, .int .i64 a2, .bool a3] 79) = C
      have gBC : Gr B C := by rw [← hC]; exact (by repeat (first | exact Gr.refl _ | apply Gr.ext | apply Gr.alloc | apply Gr.drew))
      clear hC y0 y1 y2 y3 y4 y5 y6
      refine (specDef_any (g0, g1) t0 (x0, x1) _ (Rd.gr HG.out (HGB.out.trans gBC)) (Rd.gr HT.out (HGB.out.trans gBC)) (Rd.gr HX.out (HGB.out.trans gBC)) HWT.out).mono ?_
      rintro e W5 ⟨es, fq, rfl, hr, hfq, g5⟩
      obtain ⟨ye, hye⟩ : ∃ y, y = (defOf (g0, g1) t0 (x0, x1)).getD zeroD := ⟨_, rfl⟩; have hr1e := hr; change Rd.rd fq _ es.toList ((defOf (g0, g1) t0 (x0, x1)).getD zeroD) at hr1e; rw [← hye] at hr1e; have HYe := Lib.hid hye; have HRe := Lib.hid hr1e; obtain ⟨e0, ⟨e10, e11, e12, e13, e14, e15, e16⟩⟩ := ye; obtain ⟨ve16, fe16, rfl, hfqe, he0, he10, he11, he12, he13, he14, he15, he16⟩ := rdDefinition_inv e0 e10 e11 e12 e13 e14 e15 e16 hr1e; have FQe := Lib.hid hfqe; clear hfqe; obtain ⟨ae16, ke16, rfl, oe161, oe162, oe163⟩ := he16.open; clear hr hr1e hye; obtain ⟨b3, hb3⟩ : ∃ b : Bool, b = (defOf (g0, g1) t0 (x0, x1)).isSome := ⟨_, rfl⟩; rw [← hb3]; have Hb3 := Lib.hid hb3; clear hb3
      have HB5 := Lib.hid (gBC.trans g5)
      have H05 := Lib.hid (H0B.out.trans HB5.out)
      have HG5 := Lib.hid (HB00.out.trans H05.out)
      have hs5 := HB5.out.size
      clear gBC g5 hfq
      cases b3 with
      | false =>
        have HS2 := Lib.hid (HSRC.out.trans (srcD_none (none_of_isSome Hb3.out.symm)))
        have o0 := ((HV4.out.gr HB5.out)).cell (k := 0) (by simp)
        have o1 := ((HV4.out.gr HB5.out)).cell (k := 1) (by simp)
        have o2 := ((HV4.out.gr HB5.out)).cell (k := 2) (by simp)
        have o3 := ((HV4.out.gr HB5.out)).cell (k := 3) (by simp)
        have o4 := ((HV4.out.gr HB5.out)).cell (k := 4) (by simp)
        have o5 := ((HV4.out.gr HB5.out)).cell (k := 5) (by simp)
        have o6 := ((HV4.out.gr HB5.out)).cell (k := 6) (by simp)
        have o7 := ((HV4.out.gr HB5.out)).cell (k := 7) (by simp)
        have o8 := ((HV4.out.gr HB5.out)).cell (k := 8) (by simp)
        have zo := blk o0
        have r0 := ((HV3.out.gr HB5.out)).cell (k := 0) (by simp)
        have r1 := ((HV3.out.gr HB5.out)).cell (k := 1) (by simp)
        have r2 := ((HV3.out.gr HB5.out)).cell (k := 2) (by simp)
        have r3 := ((HV3.out.gr HB5.out)).cell (k := 3) (by simp)
        have r4 := ((HV3.out.gr HB5.out)).cell (k := 4) (by simp)
        have r5 := ((HV3.out.gr HB5.out)).cell (k := 5) (by simp)
        have r6 := ((HV3.out.gr HB5.out)).cell (k := 6) (by simp)
        have r7 := ((HV3.out.gr HB5.out)).cell (k := 7) (by simp)
        have r8 := ((HV3.out.gr HB5.out)).cell (k := 8) (by simp)
        have t0' := ((HV3.out.gr HB5.out)).frozen 0
        have t1' := ((HV3.out.gr HB5.out)).frozen 1
        have t2' := ((HV3.out.gr HB5.out)).frozen 2
        have t3' := ((HV3.out.gr HB5.out)).frozen 3
        have t4' := ((HV3.out.gr HB5.out)).frozen 4
        have t5' := ((HV3.out.gr HB5.out)).frozen 5
        have t6' := ((HV3.out.gr HB5.out)).frozen 6
        have t7' := ((HV3.out.gr HB5.out)).frozen 7
        have t8' := ((HV3.out.gr HB5.out)).frozen 8
        have zr := blk r0
        go_wp2_with fail
        clear r0 r1 r2 r3 r4 r5 r6 r7 r8 t0' t1' t2' t3' t4' t5' t6' t7' t8'
        generalize hF : ((((((((((W5.setCell ⟨w.heap.size + 1 + 1 + 1, 0, none⟩ (.int .i64 x0)).setCell ⟨w.heap.size + 1 + 1 + 1, 1, none⟩ (.string x1)).setCell ⟨w.heap.size + 1 + 1 + 1, 2, none⟩ (.int .i64 0)).setCell ⟨w.heap.size + 1 + 1 + 1, 3, none⟩ (.int .i64 0)).setCell ⟨w.heap.size + 1 + 1 + 1, 4, none⟩ (.int .i64 0)).setCell ⟨w.heap.size + 1 + 1 + 1, 5, none⟩ (.string ⟨#[]⟩)).setCell ⟨w.heap.size + 1 + 1 + 1, 6, none⟩ (.slice none 0 0)).setCell ⟨w.heap.size + 1 + 1 + 1, 7, none⟩ (.slice none 0 0)).setCell ⟨w.heap.size + 1 + 1 + 1, 8, none⟩ (.slice none 0 0)).alloc (.cells #[.int .i64 e0, .int .i64 e10, .int .i64 e11, .int .i64 e12, .int .i64 e13, .string e14, .string e15, .slice ae16 e16.length ke16] 89)) = WF
        have vF : VRow WF (w.heap.size + 1 + 1 + 1) 38 [.int .i64 x0, .string x1, .int .i64 0, .int .i64 0, .int .i64 0, .string ⟨#[]⟩, .slice none 0 0, .slice none 0 0, .slice none 0 0] := by rw [← hF]; exact (VRow.put9 (HV3.out.gr HB5.out) _ _ _ _ _ _ _ _ _).gr (Gr.alloc (Gr.refl _) _)
        have wF : Wr [w.heap.size + 1 + 1 + 1] W5 WF := by rw [← hF]; exact (Wr.put9 _ _ _ _ _ _ _ _ _ _ _).gr (Gr.alloc (Gr.refl _) _)
        have gF : Gr w WF := by rw [← hF]; exact (Gr.put9 HG5.out (by omega) _ _ _ _ _ _ _ _ _).trans (Gr.alloc (Gr.refl _) _)
        have r0 := vF.cell (k := 0) (by simp)
        have r1 := vF.cell (k := 1) (by simp)
        have r2 := vF.cell (k := 2) (by simp)
        have r3 := vF.cell (k := 3) (by simp)
        have r4 := vF.cell (k := 4) (by simp)
        have r5 := vF.cell (k := 5) (by simp)
        have r6 := vF.cell (k := 6) (by simp)
        have r7 := vF.cell (k := 7) (by simp)
        have r8 := vF.cell (k := 8) (by simp)
        clear hF vF
        obtain ⟨fr, h1, h2, h3⟩ := entry_rd HX0.out HX1.out wf0 wf0 (r := ⟨#[]⟩) (by decide) (SlR.nil WF) (SlR.nil WF) (SlR.nil WF)
        exact bodyPost_ret (v := .agg #[.int .i64 x0, .string x1, .int .i64 0, .int .i64 0, .int .i64 0, .string ⟨#[]⟩, .slice none 0 0, .slice none 0 0, .slice none 0 0])
          (by simp [results, Tryz.results9, go_sem, r0, r1, r2, r3, r4, r5, r6, r7, r8]) rfl ⟨_, fr, rfl, by rw [HS2.out]; exact h1, ⟨h3 (by simp), fun b hb => by simpa using (h2 b).1 hb⟩, gF⟩
      | true =>
        have hde : defOf (g0, g1) t0 (x0, x1) = some (e0, e10, e11, e12, e13, e14, e15, e16) := some_of_getD Hb3.out.symm HYe.out.symm
        obtain ⟨m, hm, hml⟩ := defOf_owner hde
        have HS2 := Lib.hid (HSRC.out.trans (srcD_some hde hm hml))
        subst hm
        have hlt := hml
        have hgw := HG5.out
        obtain ⟨b, off, rfl, hbb⟩ := ot03 m hlt
        obtain ⟨csq, feq, hcq, hrq, -⟩ := ht0.at hlt
        obtain ⟨yq, hyq⟩ : ∃ y, y = t0[m] := ⟨_, rfl⟩
        rw [← hyq] at hrq
        have HYq := Lib.hid hyq
        have HRq := Lib.hid hrq
        obtain ⟨q0, q1, q2, q3, q4, q5⟩ := yq
        obtain ⟨vq5, fq5, hcsq, -, hq0, hq1, hq2, hq3, hq4, hq5⟩ := rdNode_inv (cs := csq.toArray) q0 q1 q2 q3 q4 q5 (by simpa using hrq)
        obtain rfl : csq = [.int .i64 q0, .int .i64 q1, .int .i64 q2, .int .i64 q3, .string q4, vq5] := by have := congrArg Array.toList hcsq; simpa using this
        obtain ⟨aq5, kq5, rfl, oq51, oq52, oq53⟩ := hq5.open
        have qz0 := hgw.keep (show w.cell? ⟨b, off + m * 6, none⟩ = some (.int .i64 q0) from by simpa [Rd.n] using hcq 0 _ rfl)
        have qz1 := hgw.keep (show w.cell? ⟨b, off + m * 6 + 1, none⟩ = some (.int .i64 q1) from hcq 1 _ rfl)
        have qz2 := hgw.keep (show w.cell? ⟨b, off + m * 6 + 2, none⟩ = some (.int .i64 q2) from hcq 2 _ rfl)
        have qz3 := hgw.keep (show w.cell? ⟨b, off + m * 6 + 3, none⟩ = some (.int .i64 q3) from hcq 3 _ rfl)
        have qz4 := hgw.keep (show w.cell? ⟨b, off + m * 6 + 4, none⟩ = some (.string q4) from hcq 4 _ rfl)
        have qz5 := hgw.keep (show w.cell? ⟨b, off + m * 6 + 5, none⟩ = some (.slice aq5 q5.length kq5) from hcq 5 _ rfl)
        have qzb := blk qz0
        clear hcsq hcq hrq hyq
        have HQ := Lib.hid (And.intro hq0 (And.intro hq3 hq4))
        have HS3 := Lib.hid (show srcOf (g0, g1) t0 (x0, x1) = ((x0, x1), 0, q0, q3, q4, nidsOf t0 (m : Int), [], []) by rw [HS2.out, ← HYq.out])
        have j0 : (0 : Int) ≤ (m : Int) := by omega
        have j1 : (m : Int) < (t0.length : Int) := by omega
        have y2 := bB02 _ H05.out
        have zy2 := blk y2
        have v54 := HV4.out.gr HB5.out
        have v53 := HV3.out.gr HB5.out
        have o3 := v54.cell (k := 3) (by simp)
        have o4 := v54.cell (k := 4) (by simp)
        have o5 := v54.cell (k := 5) (by simp)
        have o6 := v54.cell (k := 6) (by simp)
        have f3 := v54.frozen 3
        have f4 := v54.frozen 4
        have f5 := v54.frozen 5
        have f6 := v54.frozen 6
        have zo := blk o3
        have HV53 := Lib.hid v53
        have HV54 := Lib.hid v54
        have hbw : b < w.heap.size := hbb
        clear hde hq0 hq1 hq2 hq3 hq4 hq5 hgw v53 v54
        go_wp2_with fail
        clear o3 o4 o5 o6 f3 f4 f5 f6 zo zy2 y2
        generalize hE : ((((W5.setCell ⟨w.heap.size + 1 + 1 + 1 + 1, 3, none⟩ (.int .i64 q0)).setCell ⟨w.heap.size + 1 + 1 + 1 + 1, 4, none⟩ (.int .i64 q3)).setCell ⟨w.heap.size + 1 + 1 + 1 + 1, 5, none⟩ (.string q4)).alloc (.cells #[.int .i64 (m : Int), .int .i64 e10, .int .i64 e11, .int .i64 e12, .int .i64 e13, .string e14, .string e15, .slice ae16 e16.length ke16] 89)) = W6
        have v6 : VRow W6 (w.heap.size + 1 + 1 + 1 + 1) 38 [.int .i64 x0, .string x1, .int .i64 0, .int .i64 q0, .int .i64 q3, .string q4, .slice none 0 0, .slice none 0 0, .slice none 0 0] := by
          rw [← hE]
          exact (VRow.set (VRow.set (VRow.set HV54.out 3 (.int .i64 q0)) 4 (.int .i64 q3)) 5 (.string q4)).gr (Gr.alloc (Gr.refl _) _)
        have v63 : VRow W6 (w.heap.size + 1 + 1 + 1) 38 [.int .i64 0, .string ⟨#[]⟩, .int .i64 0, .int .i64 0, .int .i64 0, .string ⟨#[]⟩, .slice none 0 0, .slice none 0 0, .slice none 0 0] := by
          rw [← hE]
          exact (((HV53.out.ne (by omega)).ne (by omega)).ne (by omega)).gr (Gr.alloc (Gr.refl _) _)
        have cd : W6.cell? ⟨W5.heap.size, 0, none⟩ = some (.int .i64 m) := by
          rw [← hE]
          exact box_cell (by simp) rfl
        have w6 : Wr [w.heap.size + 1 + 1 + 1 + 1] W5 W6 := by
          rw [← hE]
          exact (Wr.setCell (Wr.setCell (Wr.setCell (Wr.refl [w.heap.size + 1 + 1 + 1 + 1] _) (List.mem_singleton.2 rfl) _) (List.mem_singleton.2 rfl) _) (List.mem_singleton.2 rfl) _).gr (Gr.alloc (Gr.refl _) _)
        clear hE
        have g06 : Gr B0 W6 := Gr.wr H05.out w6 (fun b hb => by simp at hb; omega)
        have y2 := bB02 _ g06
        have g6 : Gr w W6 := HB00.out.trans g06
        have hs6 := w6.size
        have o6 := v6.cell (k := 6) (by simp)
        have HV6 := Lib.hid v6
        have HV63 := Lib.hid v63
        have HG6 := Lib.hid g6
        have zy2 := blk y2
        have zd := blk cd
        have zo := blk o6
        clear v6 v63 w6 g6 g06
        try go_wp2_with fail
        refine (specNids_any t0 (m : Int) _ (Rd.gr HT.out (HG6.out.trans (by repeat (first | exact Gr.refl _ | apply Gr.ext | apply Gr.alloc | apply Gr.drew)))) HWT2.out).mono ?_
        rintro e W7 ⟨vI, fI, rfl, sI, hfI, g7⟩
        obtain ⟨aI, kI, rfl, -, -, -⟩ := sI.open
        have HV7 := Lib.hid (HV6.out.gr g7)
        have HV73 := Lib.hid (HV63.out.gr g7)
        have HG7 := Lib.hid (HG6.out.trans g7)
        have hs7 := g7.size
        have HSI := Lib.hid sI
        have HFI := Lib.hid hfI
        clear sI hfI g7 o6 zo y2 zy2 cd zd
        have o0 := (HV7.out).cell (k := 0) (by simp)
        have o1 := (HV7.out).cell (k := 1) (by simp)
        have o2 := (HV7.out).cell (k := 2) (by simp)
        have o3 := (HV7.out).cell (k := 3) (by simp)
        have o4 := (HV7.out).cell (k := 4) (by simp)
        have o5 := (HV7.out).cell (k := 5) (by simp)
        have o6 := (HV7.out).cell (k := 6) (by simp)
        have o7 := (HV7.out).cell (k := 7) (by simp)
        have o8 := (HV7.out).cell (k := 8) (by simp)
        have zo := blk o0
        have r0 := (HV73.out).cell (k := 0) (by simp)
        have r1 := (HV73.out).cell (k := 1) (by simp)
        have r2 := (HV73.out).cell (k := 2) (by simp)
        have r3 := (HV73.out).cell (k := 3) (by simp)
        have r4 := (HV73.out).cell (k := 4) (by simp)
        have r5 := (HV73.out).cell (k := 5) (by simp)
        have r6 := (HV73.out).cell (k := 6) (by simp)
        have r7 := (HV73.out).cell (k := 7) (by simp)
        have r8 := (HV73.out).cell (k := 8) (by simp)
        have t0' := (HV73.out).frozen 0
        have t1' := (HV73.out).frozen 1
        have t2' := (HV73.out).frozen 2
        have t3' := (HV73.out).frozen 3
        have t4' := (HV73.out).frozen 4
        have t5' := (HV73.out).frozen 5
        have t6' := (HV73.out).frozen 6
        have t7' := (HV73.out).frozen 7
        have t8' := (HV73.out).frozen 8
        have zr := blk r0
        have f6 := HV7.out.frozen 6
        go_wp2_with fail
        clear o0 o1 o2 o3 o4 o5 o6 o7 o8 f6
        have HW8 := Lib.hid (Wr.setCell (Wr.refl [w.heap.size + 1 + 1 + 1 + 1] W7) (List.mem_singleton.2 rfl) (.slice aI (nidsOf t0 (m : Int)).length kI) : Wr [w.heap.size + 1 + 1 + 1 + 1] W7 (W7.setCell ⟨w.heap.size + 1 + 1 + 1 + 1, 6, none⟩ (.slice aI (nidsOf t0 (m : Int)).length kI)))
        have HV83 := Lib.hid (HV73.out.ne (by omega) : VRow (W7.setCell ⟨w.heap.size + 1 + 1 + 1 + 1, 6, none⟩ (.slice aI (nidsOf t0 (m : Int)).length kI)) (w.heap.size + 1 + 1 + 1) 38 [.int .i64 0, .string ⟨#[]⟩, .int .i64 0, .int .i64 0, .int .i64 0, .string ⟨#[]⟩, .slice none 0 0, .slice none 0 0, .slice none 0 0])
        have HG8 := Lib.hid (Gr.setCell (p := ⟨w.heap.size + 1 + 1 + 1 + 1, 6, none⟩) HG7.out (show w.heap.size ≤ w.heap.size + 1 + 1 + 1 + 1 by omega) (.slice aI (nidsOf t0 (m : Int)).length kI))
        clear r0 r1 r2 r3 r4 r5 r6 r7 r8 t0' t1' t2' t3' t4' t5' t6' t7' t8'
        generalize hF : ((((((((((W7.setCell ⟨w.heap.size + 1 + 1 + 1 + 1, 6, none⟩ (.slice aI (nidsOf t0 (m : Int)).length kI)).setCell ⟨w.heap.size + 1 + 1 + 1, 0, none⟩ (.int .i64 x0)).setCell ⟨w.heap.size + 1 + 1 + 1, 1, none⟩ (.string x1)).setCell ⟨w.heap.size + 1 + 1 + 1, 2, none⟩ (.int .i64 0)).setCell ⟨w.heap.size + 1 + 1 + 1, 3, none⟩ (.int .i64 q0)).setCell ⟨w.heap.size + 1 + 1 + 1, 4, none⟩ (.int .i64 q3)).setCell ⟨w.heap.size + 1 + 1 + 1, 5, none⟩ (.string q4)).setCell ⟨w.heap.size + 1 + 1 + 1, 6, none⟩ (.slice aI (nidsOf t0 (m : Int)).length kI)).setCell ⟨w.heap.size + 1 + 1 + 1, 7, none⟩ (.slice none 0 0)).setCell ⟨w.heap.size + 1 + 1 + 1, 8, none⟩ (.slice none 0 0)) = WF
        have vF : VRow WF (w.heap.size + 1 + 1 + 1) 38 [.int .i64 x0, .string x1, .int .i64 0, .int .i64 q0, .int .i64 q3, .string q4, .slice aI (nidsOf t0 (m : Int)).length kI, .slice none 0 0, .slice none 0 0] := by rw [← hF]; exact (VRow.put9 HV83.out _ _ _ _ _ _ _ _ _).gr (Gr.refl _)
        have wF : Wr [w.heap.size + 1 + 1 + 1] (W7.setCell ⟨w.heap.size + 1 + 1 + 1 + 1, 6, none⟩ (.slice aI (nidsOf t0 (m : Int)).length kI)) WF := by rw [← hF]; exact (Wr.put9 _ _ _ _ _ _ _ _ _ _ _).gr (Gr.refl _)
        have gF : Gr w WF := by rw [← hF]; exact (Gr.put9 HG8.out (by omega) _ _ _ _ _ _ _ _ _).trans (Gr.refl _)
        have r0 := vF.cell (k := 0) (by simp)
        have r1 := vF.cell (k := 1) (by simp)
        have r2 := vF.cell (k := 2) (by simp)
        have r3 := vF.cell (k := 3) (by simp)
        have r4 := vF.cell (k := 4) (by simp)
        have r5 := vF.cell (k := 5) (by simp)
        have r6 := vF.cell (k := 6) (by simp)
        have r7 := vF.cell (k := 7) (by simp)
        have r8 := vF.cell (k := 8) (by simp)
        clear hF vF
        obtain ⟨fr, h1, h2, h3⟩ := entry_rd HX0.out HX1.out HQ.out.1 HQ.out.2.1 HQ.out.2.2 ((HSI.out.wr HW8.out (fun b hb hm => by have := HFI.out.2 b hb; simp at hm; omega)).wr wF (fun b hb hm => by have := HFI.out.2 b hb; simp at hm; omega)) (SlR.nil WF) (SlR.nil WF)
        exact bodyPost_ret (v := .agg #[.int .i64 x0, .string x1, .int .i64 0, .int .i64 q0, .int .i64 q3, .string q4, .slice aI (nidsOf t0 (m : Int)).length kI, .slice none 0 0, .slice none 0 0])
          (by simp [results, Tryz.results9, go_sem, r0, r1, r2, r3, r4, r5, r6, r7, r8]) rfl ⟨_, fr, rfl, by rw [HS3.out]; exact h1, ⟨h3 (by simpa using HFI.out.1), fun b hb => by have := HFI.out.2 b (by simpa using (h2 b).1 hb); omega⟩, gF⟩
end Go.Proofs.YtbfmeiooeaaibaaGreat
