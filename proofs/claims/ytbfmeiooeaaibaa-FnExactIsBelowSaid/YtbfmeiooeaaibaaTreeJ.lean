/- Is a tree one of a symbol? The reference's answer; and the symbol of its root. No condition. -/
import Derived.Test.YtbfmeiooeaaibaaTreeX
import Derived.Test.YtbfmeiooeaaibaaTreeI
import Derived.Test.YtbfmeiooeaaibaaAppendR
import Derived.Test.YtbfmeiooeaaibaaCloneI
namespace Go.Proofs.Ytbfmeiooeaaibaa
open Go.RowKit
variable {d : Nat}
set_option linter.unusedVariables false

/-- The part of the check that the Ids alone answer. -/
noncomputable def idsB (t : List GNode) : Bool := @decide ((1 ≤ t.length ∧ t.length ≤ 16) ∧ idsOK t) (Classical.propDecidable _)
theorem idsB_yes {t : List GNode} (h : (1 ≤ t.length ∧ t.length ≤ 16) ∧ idsOK t) : idsB t = true := by unfold idsB; exact @decide_eq_true _ (Classical.propDecidable _) h
theorem idsB_no {t : List GNode} (h : ¬ ((1 ≤ t.length ∧ t.length ≤ 16) ∧ idsOK t)) : idsB t = false := by unfold idsB; exact @decide_eq_false _ (Classical.propDecidable _) h
theorem idsB_iff {t : List GNode} : idsB t = true ↔ (1 ≤ t.length ∧ t.length ≤ 16) ∧ idsOK t := by unfold idsB; exact @decide_eq_true_iff _ (Classical.propDecidable _)

theorem any_ids2 {t : List GNode} {k : Nat} (h : k < t.length) : ((t.take k).map (·.1)).any (fun z => t[k].1 == z) = true ↔ ∃ j, ∃ hj : j < t.length, j < k ∧ t[j].1 = t[k].1 := by
  rw [List.any_eq_true]
  constructor
  · rintro ⟨z, hz, hp⟩
    obtain ⟨j, hj, rfl⟩ := List.mem_iff_getElem.1 hz
    have hj2 : j < k := by simp at hj; omega
    simp only [List.getElem_map, List.getElem_take, beq_iff_eq] at hp
    exact ⟨j, by omega, hj2, hp.symm⟩
  · rintro ⟨j, hj, hjk, e⟩
    refine ⟨t[j].1, ?_, by simpa using e.symm⟩
    rw [List.mem_iff_getElem]
    exact ⟨j, by simp; omega, by simp⟩

set_option maxRecDepth 100000 in
set_option maxHeartbeats 8000000 in
theorem specIds_any {ft : List Nat} {ct : Array Value} (t : GTree) (w : World) (ht : Rd.rd ft w ct.toList t) (hl : t.length ≤ 1048576) :
    Calls Try.prog 51 #[.agg ct] w fun e w' => e = .returned (.bool (idsB t)) ∧ Gr w w' := by
  obtain ⟨i0, hi, hz0, hz1, hz2⟩ := info_parts Try.infoIntC
  have HZ := Lib.hid (And.intro hi (And.intro hz0 (And.intro hz1 hz2)))
  clear hi hz0 hz1 hz2
  have HT := Lib.hid ht
  obtain ⟨t0, rfl⟩ : ∃ y, y = t := ⟨t, rfl⟩
  obtain ⟨vt0, ft0, rfl, hfpt, ht0⟩ := rdTree_inv t0 ht
  have FPt := Lib.hid hfpt
  clear hfpt
  obtain ⟨at0, kt0, rfl, ot01, ot02, ot03⟩ := ht0.open
  clear ht
  go_enter Try.func51, Try.ntmps51
  go_wp2_with fail
  generalize hB : (w.alloc (.cells #[.slice at0 t0.length kt0] 40)) = B
  have gB : Gr w B := by rw [← hB]; exact (by repeat (first | exact Gr.refl _ | apply Gr.ext | apply Gr.alloc | apply Gr.drew))
  have bB0 : ∀ w' : World, Gr B w' → w'.cell? ⟨w.heap.size, 0, none⟩ = some (.slice at0 t0.length kt0) := fun w' hg => hg.keep (by rw [← hB]; repeat (first | exact box_cell (by first | rfl | (simp; done) | (simp; omega)) rfl | refine Gr.keep (Gr.alloc (Gr.refl _) _) ?_ | refine Gr.keep (Gr.ext (Gr.refl _) _) ?_ | refine Gr.keep (Gr.drew (Gr.refl _)) ?_))
  have sB : B.heap.size = w.heap.size + 1 := by rw [← hB]; first | (simp; done) | (simp; omega)
  have EB := Lib.hid hB
  clear hB
  go_loopw [4, 3] (fun s4 s3 wr => ∃ (k : Nat) (fps : List (List Nat)), k ≤ t0.length ∧ Hid (∀ i (h : i < t0.length), i < k → (1 ≤ t0[i].1 ∧ t0[i].1 ≤ 999) ∧ ∀ j (hj : j < t0.length), j < i → t0[j].1 ≠ t0[i].1) ∧ Gr B wr ∧ Hid (fps.flatten = []) ∧ OwnR (α := Int) B 3 wr s3 fps ((t0.take k).map (·.1)) ∧ s4 = .int .i64 k) (fun s4 _ _ => t0.length - (intOf s4).toNat)
  case atStart => exact ⟨0, [], by omega, Lib.hid (by omega), (by repeat (first | exact Gr.refl _ | apply Gr.ext | apply Gr.alloc | apply Gr.drew)), Lib.hid rfl, OwnR.lit0 (α := Int) (w0 := B) (w := B) 3 (Nat.le_refl _) (by omega), rfl⟩
  case round =>
    obtain ⟨k, fps, hk, HK, hg, HF, hown, rfl⟩ := hrel
    rename World => W1
    have HGR := Lib.hid hg
    have HO := Lib.hid hown
    obtain ⟨ra, rc, hform⟩ := hown.form
    have hLl : ((t0.take k).map (·.1)).length = k := by simp; omega
    rw [hLl] at hform
    have HL := Lib.hid hLl
    have y0 := bB0 _ hg
    have zb0 := blk y0
    subst hform
    clear hg hown hLl
    by_cases hlt : k < t0.length
    · have hgw : Gr w W1 := gB.trans HGR.out
      have HGW := Lib.hid hgw
      obtain ⟨b, off, rfl, hbb⟩ := ot03 k hlt
      obtain ⟨csq, feq, hcq, hrq, -⟩ := ht0.at hlt
      obtain ⟨yq, hyq⟩ : ∃ y, y = t0[k] := ⟨_, rfl⟩
      rw [← hyq] at hrq
      have HYq := Lib.hid hyq
      have HRq := Lib.hid hrq
      obtain ⟨q0, q1, q2, q3, q4, q5⟩ := yq
      obtain ⟨vq5, fq5, hcsq, -, hq0, hq1, hq2, hq3, hq4, hq5⟩ := rdNode_inv (cs := csq.toArray) q0 q1 q2 q3 q4 q5 (by simpa using hrq)
      obtain rfl : csq = [.int .i64 q0, .int .i64 q1, .int .i64 q2, .int .i64 q3, .string q4, vq5] := by have := congrArg Array.toList hcsq; simpa using this
      obtain ⟨aq5, kq5, rfl, oq51, oq52, oq53⟩ := hq5.open
      have qz0 := hgw.keep (show w.cell? ⟨b, off + k * 6, none⟩ = some (.int .i64 q0) from by simpa [Rd.n] using hcq 0 _ rfl)
      have qz1 := hgw.keep (show w.cell? ⟨b, off + k * 6 + 1, none⟩ = some (.int .i64 q1) from hcq 1 _ rfl)
      have qz2 := hgw.keep (show w.cell? ⟨b, off + k * 6 + 2, none⟩ = some (.int .i64 q2) from hcq 2 _ rfl)
      have qz3 := hgw.keep (show w.cell? ⟨b, off + k * 6 + 3, none⟩ = some (.int .i64 q3) from hcq 3 _ rfl)
      have qz4 := hgw.keep (show w.cell? ⟨b, off + k * 6 + 4, none⟩ = some (.string q4) from hcq 4 _ rfl)
      have qz5 := hgw.keep (show w.cell? ⟨b, off + k * 6 + 5, none⟩ = some (.slice aq5 q5.length kq5) from hcq 5 _ rfl)
      have qzb := blk qz0
      clear hcsq hcq hrq hyq
      obtain ⟨fo, hso, -⟩ := HO.out.slR (by rw [HL.out]; unfold reachLen; omega)
      have HSO := Lib.hid hso
      have HQ0 := Lib.hid hq0
      clear hgw hso hq0 hq5
      by_cases hid : 1 ≤ q0 ∧ q0 ≤ 999
      · have HID := Lib.hid hid
        clear hid
        go_wp2_with fail
        refine (l1In_yes _ _ _ _ HID.out.1 HID.out.2).mono ?_
        rintro e w' ⟨rfl, x1, rfl⟩
        go_wp2_with fail
        refine (l1HasInt_any _ _ ((t0.take k).map (·.1)) q0 _ (HSO.out.gr (by repeat (first | exact Gr.refl _ | apply Gr.ext | apply Gr.alloc | apply Gr.drew)))).mono ?_
        rintro e w' ⟨rfl, x2, rfl⟩
        by_cases hdup : ((t0.take k).map (·.1)).any (fun z => q0 == z) = true
        · have HD := Lib.hid hdup
          rw [hdup]
          clear hdup
          go_wp2_with fail
          go_ret
          refine ⟨ret_bool (idsB_no fun h => ?_).symm, HGW.out.trans (by repeat (first | exact Gr.refl _ | apply Gr.ext | apply Gr.alloc | apply Gr.drew))⟩
          have h1 := HD.out
          rw [show q0 = t0[k].1 by rw [← HYq.out]] at h1
          obtain ⟨j, hj, hjk, e⟩ := (any_ids2 hlt).1 h1
          exact (h.2 k hlt).2 j hj hjk e
        · have hdn : ((t0.take k).map (·.1)).any (fun z => q0 == z) = false := eq_false_of_ne_true hdup
          have HD := Lib.hid hdup
          rw [hdn]
          clear hdup hdn
          go_wp2_with (first | (at_builtin; refine wpList_append_R (α := Int) (w0 := B) (HGR.out.trans (by repeat (first | exact Gr.refl _ | apply Gr.ext | apply Gr.alloc | apply Gr.drew))) rfl _ _ 29 rfl 3 i0 (.int .i64 0) 8 Try.underlying29 HZ.out.1 HZ.out.2.1 HZ.out.2.2.1 HZ.out.2.2.2 rfl _ fps _ (by rfl) (HO.out.gr (by repeat (first | exact Gr.refl _ | apply Gr.ext | apply Gr.alloc | apply Gr.drew))) _ [[]] [q0] (by rfl) (SrcR.one (by simp) (intRd HQ0.out _)) (fun b _ => by simp) (by rw [HL.out]; unfold maxLen; simp; omega) (by rw [HL.out]; simp; omega) ?_; intro v3 w3 h1 h2 h3 h4; replace h1 := Lib.hid h1; replace h4 := Lib.hid h4; clear h2 h3))
          refine ⟨⟨k + 1, fps ++ [[]], by omega, Lib.hid fun i hi hik => ?_, h4.out, Lib.hid (by rw [List.flatten_append, HF.out]; rfl), ?_, by go_num⟩, by simp [intOf]; omega⟩
          · by_cases hik2 : i < k
            · exact HK.out i hi hik2
            · obtain rfl : i = k := by omega
              refine ⟨by rw [← HYq.out]; exact HID.out, fun j hj hji e => HD.out ?_⟩
              rw [show q0 = t0[i].1 by rw [← HYq.out]]
              exact (any_ids2 hlt).2 ⟨j, hj, hji, e⟩
          · have e : (t0.take (k + 1)).map (·.1) = (t0.take k).map (·.1) ++ [q0] := by
              rw [List.take_succ_eq_append_getElem hlt, List.map_append, ← HYq.out]; rfl
            rw [e]; exact h1.out
      · have HID := Lib.hid hid
        have hor : q0 < 1 ∨ 999 < q0 := by omega
        have HOR := Lib.hid hor
        clear hid hor
        go_wp2_with fail
        refine (l1In_no _ _ _ _ HOR.out).mono ?_
        rintro e w' ⟨rfl, x1, rfl⟩
        go_wp2_with fail
        go_ret
        refine ⟨ret_bool (idsB_no fun h => HID.out ?_).symm, HGW.out.trans (by repeat (first | exact Gr.refl _ | apply Gr.ext | apply Gr.alloc | apply Gr.drew))⟩
        have := (h.2 k hlt).1
        rw [← HYq.out] at this
        exact this
    · have hk2 : k = t0.length := by omega
      subst hk2
      have hids : idsOK t0 := fun i hi => HK.out i hi hi
      have HIDS := Lib.hid hids
      have HGW := Lib.hid (gB.trans HGR.out)
      clear hids
      by_cases hlen : 1 ≤ t0.length ∧ t0.length ≤ 16
      · have HLN := Lib.hid hlen
        clear hlen
        go_wp2_with fail
        refine (l1In_yes _ _ _ _ (by have := HLN.out; omega) (by have := HLN.out; omega)).mono ?_
        rintro e w' ⟨rfl, x1, rfl⟩
        go_wp2_with fail
        go_ret
        exact ⟨ret_bool (idsB_yes ⟨HLN.out, HIDS.out⟩).symm, HGW.out.trans (by repeat (first | exact Gr.refl _ | apply Gr.ext | apply Gr.alloc | apply Gr.drew))⟩
      · have HLN := Lib.hid hlen
        clear hlen
        go_wp2_with fail
        refine (l1In_no _ _ _ _ (by have := HLN.out; omega)).mono ?_
        rintro e w' ⟨rfl, x1, rfl⟩
        go_wp2_with fail
        go_ret
        exact ⟨ret_bool (idsB_no fun h => HLN.out h.1).symm, HGW.out.trans (by repeat (first | exact Gr.refl _ | apply Gr.ext | apply Gr.alloc | apply Gr.drew))⟩

set_option maxRecDepth 10000 in
set_option maxHeartbeats 4000000 in
theorem specTreeOf_any {fg : List Nat} {cg : Array Value} (g : (GGrammar d)) {ft : List Nat} {ct : Array Value} (t : GTree) (s : ByteArray) (w : World) (hg : Rd.rd fg w cg.toList g) (ht : Rd.rd ft w ct.toList t) (hl : wtGrammar g ≤ 1048576) (hl2 : t.length ≤ 1048576) :
    Calls Try.prog 30 #[.agg cg, .agg ct, .string s] w fun e w' => e = .returned (.bool (treeOf g t s)) ∧ Gr w w' := by
  have HG := Lib.hid hg
  obtain ⟨g0, g1⟩ := g
  obtain ⟨vg0, fg0, vg1, fg1, rfl, hfpg, hg0, hg1⟩ := rdGrammar_inv g0 g1 hg
  have FPg := Lib.hid hfpg
  clear hfpg
  obtain ⟨ag0, kg0, rfl, og01, og02, og03⟩ := hg0.open
  obtain ⟨ag1, kg1, rfl, og11, og12, og13⟩ := hg1.open
  clear hg
  have HT := Lib.hid ht
  obtain ⟨t0, rfl⟩ : ∃ y, y = t := ⟨t, rfl⟩
  obtain ⟨vt0, ft0, rfl, hfpt, ht0⟩ := rdTree_inv t0 ht
  have FPt := Lib.hid hfpt
  clear hfpt
  obtain ⟨at0, kt0, rfl, ot01, ot02, ot03⟩ := ht0.open
  clear ht
  obtain ⟨res, hres⟩ : ∃ z, z = walkT (g0, g1) t0 (t0.length + 1) 0 (-1) 0 s := ⟨_, rfl⟩
  have HRES := Lib.hid hres
  have hW : Gr w ((w.alloc (.cells #[.slice ag0 g0.length kg0, .slice ag1 g1.length kg1] 36)).alloc (.cells #[.slice at0 t0.length kt0] 40)) := (by repeat (first | exact Gr.refl _ | apply Gr.ext | apply Gr.alloc | apply Gr.drew))
  have HW := Lib.hid hW
  have HC := Lib.hid (fun x : Ext => l13Walk_all (g0, g1) t0 hl (t0.length + 1) _ _ _ _ 0 (-1) 0 s (((w.alloc (.cells #[.slice ag0 g0.length kg0, .slice ag1 g1.length kg1] 36)).alloc (.cells #[.slice at0 t0.length kt0] 40)).ext x) (Rd.gr HG.out (by repeat (first | exact Gr.refl _ | apply Gr.ext | apply Gr.alloc | apply Gr.drew))) (Rd.gr HT.out (by repeat (first | exact Gr.refl _ | apply Gr.ext | apply Gr.alloc | apply Gr.drew))) (by omega) (by omega) (by omega))
  have HI := Lib.hid (fun x : Ext => specIds_any t0 (((w.alloc (.cells #[.slice ag0 g0.length kg0, .slice ag1 g1.length kg1] 36)).alloc (.cells #[.slice at0 t0.length kt0] 40)).ext x) (Rd.gr HT.out (by repeat (first | exact Gr.refl _ | apply Gr.ext | apply Gr.alloc | apply Gr.drew))) hl2)
  clear hres hW
  by_cases hids : idsB t0 = true
  · have HB := Lib.hid hids
    clear hids
    go_enter Try.func30, Try.ntmps30
    go_wp2_with fail
    refine wp_region_grown (by kernel_rfl) (by kernel_rfl) ?_
    repeat (go_big_quiet_step (first | (go_at_call 51; exact grown_call (by have := HI.out; rw [HB.out] at this; exact this _)) | (go_at_call 52; exact grown_call (HC.out _))))
    refine wpQuiet_nil ?_
    intro _ hw'
    obtain ⟨nx, hw''⟩ := hw'
    subst hw''
    rw [← HRES.out]
    by_cases hr : res = (t0.length : Int)
    · have HR := Lib.hid hr
      have ht : (res == (t0.length : Int)) = true := by simpa using hr
      clear hr
      go_wp2_with fail
      go_ret
      exact ⟨ret_bool (by rw [ht, treeOf_yes (idsB_iff.1 HB.out).1 (idsB_iff.1 HB.out).2 (by rw [← HRES.out]; exact HR.out)]), (by repeat (first | exact Gr.refl _ | apply Gr.ext | apply Gr.alloc | apply Gr.drew))⟩
    · have HR := Lib.hid hr
      have ht : (res == (t0.length : Int)) = false := by simpa using hr
      clear hr
      go_wp2_with fail
      go_ret
      exact ⟨ret_bool (by rw [ht, treeOf_no fun h => HR.out (by rw [HRES.out]; exact h.2.2)]), (by repeat (first | exact Gr.refl _ | apply Gr.ext | apply Gr.alloc | apply Gr.drew))⟩
  · have hb : idsB t0 = false := eq_false_of_ne_true hids
    have HB := Lib.hid hb
    have HN := Lib.hid hids
    clear hids hb
    go_enter Try.func30, Try.ntmps30
    go_wp2_with fail
    refine wp_region_grown (by kernel_rfl) (by kernel_rfl) ?_
    repeat (go_big_quiet_step (first | (go_at_call 51; exact grown_call (by have := HI.out; rw [HB.out] at this; exact this _)) | (go_at_call 52; exact grown_call (HC.out _))))
    refine wpQuiet_nil ?_
    intro _ hw'
    obtain ⟨nx, hw''⟩ := hw'
    subst hw''
    go_wp2_with fail
    go_ret
    exact ⟨ret_bool (treeOf_no fun h => HN.out (idsB_yes ⟨h.1, h.2.1⟩)).symm, (by repeat (first | exact Gr.refl _ | apply Gr.ext | apply Gr.alloc | apply Gr.drew))⟩

set_option maxRecDepth 10000 in
set_option maxHeartbeats 4000000 in
theorem isTree_any {fg : List Nat} {cg : Array Value} (g : (GGrammar d)) {ft : List Nat} {ct : Array Value} (t : GTree) (w : World) (hg : Rd.rd fg w cg.toList g) (ht : Rd.rd ft w ct.toList t) :
    Calls Try.prog 38 #[.agg cg, .agg ct] w fun e w' => e = .returned (.bool (isTreeB g t)) ∧ Gr w w' := by
  have HG := Lib.hid hg
  obtain ⟨g0, g1⟩ := g
  obtain ⟨vg0, fg0, vg1, fg1, rfl, hfpg, hg0, hg1⟩ := rdGrammar_inv g0 g1 hg
  have FPg := Lib.hid hfpg
  clear hfpg
  obtain ⟨ag0, kg0, rfl, og01, og02, og03⟩ := hg0.open
  obtain ⟨ag1, kg1, rfl, og11, og12, og13⟩ := hg1.open
  clear hg
  have HT := Lib.hid ht
  obtain ⟨t0, rfl⟩ : ∃ y, y = t := ⟨t, rfl⟩
  obtain ⟨vt0, ft0, rfl, hfpt, ht0⟩ := rdTree_inv t0 ht
  have FPt := Lib.hid hfpt
  clear hfpt
  obtain ⟨at0, kt0, rfl, ot01, ot02, ot03⟩ := ht0.open
  clear ht
  have H1 := Lib.hid (fun x : Ext => implSymOf_any (g0, g1) t0 0 (((w.alloc (.cells #[.slice ag0 g0.length kg0, .slice ag1 g1.length kg1] 36)).alloc (.cells #[.slice at0 t0.length kt0] 40)).ext x) (Rd.gr HG.out (by repeat (first | exact Gr.refl _ | apply Gr.ext | apply Gr.alloc | apply Gr.drew))) (Rd.gr HT.out (by repeat (first | exact Gr.refl _ | apply Gr.ext | apply Gr.alloc | apply Gr.drew))))
  have H2 := Lib.hid (fun x : Ext => implTreeOf_any (g0, g1) t0 (symAt (g0, g1) t0 0) (((w.alloc (.cells #[.slice ag0 g0.length kg0, .slice ag1 g1.length kg1] 36)).alloc (.cells #[.slice at0 t0.length kt0] 40)).ext x) (Rd.gr HG.out (by repeat (first | exact Gr.refl _ | apply Gr.ext | apply Gr.alloc | apply Gr.drew))) (Rd.gr HT.out (by repeat (first | exact Gr.refl _ | apply Gr.ext | apply Gr.alloc | apply Gr.drew))))
  go_enter Try.func38, Try.ntmps38
  go_wp2_with fail
  refine wp_region_grown (by kernel_rfl) (by kernel_rfl) ?_
  repeat (go_big_quiet_step (first | (go_at_call 40; exact grown_call (H1.out _)) | (go_at_call 60; exact grown_call (H2.out _))))
  refine wpQuiet_nil ?_
  intro _ hw'
  obtain ⟨nx, hw''⟩ := hw'
  subst hw''
  go_wp2_with fail
  go_ret
  exact ⟨rfl, (by repeat (first | exact Gr.refl _ | apply Gr.ext | apply Gr.alloc | apply Gr.drew))⟩
end Go.Proofs.Ytbfmeiooeaaibaa
