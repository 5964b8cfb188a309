/- Is a tree one of a symbol? The program's answer. No condition. -/
import Derived.Test.YtbfmeiooeaaibaaTreeW
namespace Go.Proofs.Ytbfmeiooeaaibaa
open Go.RowKit
variable {d : Nat}
set_option linter.unusedVariables false

theorem within_in (x lo hi : Int) (w : World) (h : lo ≤ x) (h' : x ≤ hi) :
    Calls Try.prog 78 #[.int .i64 x, .int .i64 lo, .int .i64 hi] w fun e w' => e = .returned (.bool true) ∧ w = w' :=
  (within_any x lo hi w).mono fun e w' ⟨he, hw⟩ => ⟨by rw [he, decide_eq_true h, decide_eq_true h']; rfl, hw⟩
theorem within_out (x lo hi : Int) (w : World) (h : x < lo ∨ hi < x) :
    Calls Try.prog 78 #[.int .i64 x, .int .i64 lo, .int .i64 hi] w fun e w' => e = .returned (.bool false) ∧ w = w' :=
  (within_any x lo hi w).mono fun e w' ⟨he, hw⟩ => ⟨by rw [he, Bool.and_eq_false_iff.2 (h.imp (fun h => decide_eq_false (by omega)) (fun h => decide_eq_false (by omega)))], hw⟩

theorem treeTest_any {fp : List Nat} {cs : Array Value} (x : GNode) (id : Int) (b : Nat) (w : World) (hx : Rd.rd fp w cs.toList x) (hc : w.cell? ⟨b, 0, none⟩ = some (.int .i64 id)) :
    Calls Try.prog 80 #[.agg cs, .pointer (some ⟨b, 0, none⟩)] w fun e w' => e = .returned (.bool (decide (x.1 = id))) ∧ Gr w w' := by
  have hb := blk hc
  obtain ⟨q0, q1, q2, q3, q4, q5⟩ := x
  obtain ⟨v5, f5, rfl, -, -, -, -, -, -, h5⟩ := rdNode_inv q0 q1 q2 q3 q4 q5 hx
  obtain ⟨a5, k5, rfl, -, -, -⟩ := h5.open
  clear hx h5
  go_enter Try.func80, Try.ntmps80
  go_wp2_with fail
  go_ret
  exact ⟨ret_bool (by simp [BEq.beq]), (by repeat (first | exact Gr.refl _ | apply Gr.ext | apply Gr.alloc | apply Gr.drew))⟩

theorem any_ids {t : List GNode} {k : Nat} (h : k < t.length) : (t.take k).any (fun n => decide (n.1 = t[k].1)) = true ↔ ∃ j, ∃ hj : j < t.length, j < k ∧ t[j].1 = t[k].1 := by
  rw [List.any_eq_true]
  constructor
  · rintro ⟨z, hz, hp⟩
    obtain ⟨j, hj, rfl⟩ := List.mem_iff_getElem.1 hz
    have hj2 : j < k := by simp at hj; omega
    simp only [List.getElem_take, decide_eq_true_eq] at hp
    exact ⟨j, by omega, hj2, hp⟩
  · rintro ⟨j, hj, hjk, e⟩
    refine ⟨t[j], ?_, by simpa using e⟩
    rw [List.mem_iff_getElem]
    exact ⟨j, by simp; omega, by simp⟩

set_option maxRecDepth 100000 in
set_option maxHeartbeats 8000000 in
theorem implTreeOf_any {fg : List Nat} {cg : Array Value} (g : (GGrammar d)) {ft : List Nat} {ct : Array Value} (t : GTree) (s : ByteArray) (w : World) (hg : Rd.rd fg w cg.toList g) (ht : Rd.rd ft w ct.toList t) :
    Calls Try.prog 60 #[.agg cg, .agg ct, .string s] w fun e w' => e = .returned (.bool (treeOf g t s)) ∧ Gr w w' := by
  have HG := Lib.hid hg
  obtain ⟨g0, g1⟩ := g
  obtain ⟨vg0, fg0, vg1, fg1, rfl, hfpg, hg0, hg1⟩ := rdGrammar_inv g0 g1 hg
  have FPg := Lib.hid hfpg
  clear hfpg
  obtain ⟨ag0, kg0, rfl, og01, og02, og03⟩ := hg0.open
  obtain ⟨ag1, kg1, rfl, og11, og12, og13⟩ := hg1.open
  clear hg
  have HT := Lib.hid ht
  obtain ⟨t0, rfl⟩ : ∃ y, y = t := ⟨t, rfl⟩
  obtain ⟨vt0, ft0, rfl, hfpt, ht0⟩ := rdTree_inv t0 ht
  have FPt := Lib.hid hfpt
  clear hfpt
  obtain ⟨at0, kt0, rfl, ot01, ot02, ot03⟩ := ht0.open
  clear ht
  by_cases hlen : 1 ≤ t0.length ∧ t0.length ≤ 16
  · have HLN := Lib.hid hlen
    clear hlen
    go_enter Try.func60, Try.ntmps60
    go_wp2_with fail
    refine (within_in _ _ _ _ (by have := HLN.out; omega) (by have := HLN.out; omega)).mono ?_
    rintro e w' ⟨rfl, rfl⟩
    go_wp2_with fail
    generalize hB : ((w.alloc (.cells #[.slice ag0 g0.length kg0, .slice ag1 g1.length kg1] 36)).alloc (.cells #[.slice at0 t0.length kt0] 40)) = B
    have gB : Gr w B := by rw [← hB]; exact (by repeat (first | exact Gr.refl _ | apply Gr.ext | apply Gr.alloc | apply Gr.drew))
    have bB0 : ∀ w' : World, Gr B w' → w'.cell? ⟨w.heap.size, 0, none⟩ = some (.slice ag0 g0.length kg0) := fun w' hg => hg.keep (by rw [← hB]; repeat (first | exact box_cell (by first | rfl | (simp; done) | (simp; omega)) rfl | refine Gr.keep (Gr.alloc (Gr.refl _) _) ?_ | refine Gr.keep (Gr.ext (Gr.refl _) _) ?_ | refine Gr.keep (Gr.drew (Gr.refl _)) ?_))
    have bB1 : ∀ w' : World, Gr B w' → w'.cell? ⟨w.heap.size, 1, none⟩ = some (.slice ag1 g1.length kg1) := fun w' hg => hg.keep (by rw [← hB]; repeat (first | exact box_cell (by first | rfl | (simp; done) | (simp; omega)) rfl | refine Gr.keep (Gr.alloc (Gr.refl _) _) ?_ | refine Gr.keep (Gr.ext (Gr.refl _) _) ?_ | refine Gr.keep (Gr.drew (Gr.refl _)) ?_))
    have bB2 : ∀ w' : World, Gr B w' → w'.cell? ⟨w.heap.size + 1, 0, none⟩ = some (.slice at0 t0.length kt0) := fun w' hg => hg.keep (by rw [← hB]; repeat (first | exact box_cell (by first | rfl | (simp; done) | (simp; omega)) rfl | refine Gr.keep (Gr.alloc (Gr.refl _) _) ?_ | refine Gr.keep (Gr.ext (Gr.refl _) _) ?_ | refine Gr.keep (Gr.drew (Gr.refl _)) ?_))
    have sB : B.heap.size = w.heap.size + 2 := by rw [← hB]; first | (simp; done) | (simp; omega)
    have EB := Lib.hid hB
    clear hB
    go_loopw [17, 7, 8] (fun s17 s7 s8 wr => ∃ k : Nat, k ≤ t0.length ∧ Hid (∀ i (h : i < t0.length), i < k → (1 ≤ t0[i].1 ∧ t0[i].1 ≤ 999) ∧ ∀ j (hj : j < t0.length), j < i → t0[j].1 ≠ t0[i].1) ∧ Gr B wr ∧ s17 = .int .i64 k) (fun s17 _ _ _ => t0.length - (intOf s17).toNat)
    case atStart => exact ⟨0, by omega, Lib.hid (by omega), Gr.refl _, rfl⟩
    case round =>
      obtain ⟨k, hk, HK, hg, rfl⟩ := hrel
      rename World => W1
      have HGR := Lib.hid hg
      have y0 := bB0 _ hg
      have y1 := bB1 _ hg
      have y2 := bB2 _ hg
      have zb0 := blk y0
      have zb1 := blk y2
      clear hg
      by_cases hlt : k < t0.length
      · have hgw : Gr w W1 := gB.trans HGR.out
        have HGW := Lib.hid hgw
        obtain ⟨fq, htk⟩ := ht0.takeK (k := k) (by omega)
        have HTK := Lib.hid htk
        clear htk
        obtain ⟨b, off, rfl, hbb⟩ := ot03 k hlt
        obtain ⟨csq, feq, hcq, hrq, -⟩ := ht0.at hlt
        obtain ⟨yq, hyq⟩ : ∃ y, y = t0[k] := ⟨_, rfl⟩
        rw [← hyq] at hrq
        have HYq := Lib.hid hyq
        have HRq := Lib.hid hrq
        obtain ⟨q0, q1, q2, q3, q4, q5⟩ := yq
        obtain ⟨vq5, fq5, hcsq, -, hq0, hq1, hq2, hq3, hq4, hq5⟩ := rdNode_inv (cs := csq.toArray) q0 q1 q2 q3 q4 q5 (by simpa using hrq)
        obtain rfl : csq = [.int .i64 q0, .int .i64 q1, .int .i64 q2, .int .i64 q3, .string q4, vq5] := by have := congrArg Array.toList hcsq; simpa using this
        obtain ⟨aq5, kq5, rfl, oq51, oq52, oq53⟩ := hq5.open
        have qz0 := hgw.keep (show w.cell? ⟨b, off + k * 6, none⟩ = some (.int .i64 q0) from by simpa [Rd.n] using hcq 0 _ rfl)
        have qz1 := hgw.keep (show w.cell? ⟨b, off + k * 6 + 1, none⟩ = some (.int .i64 q1) from hcq 1 _ rfl)
        have qz2 := hgw.keep (show w.cell? ⟨b, off + k * 6 + 2, none⟩ = some (.int .i64 q2) from hcq 2 _ rfl)
        have qz3 := hgw.keep (show w.cell? ⟨b, off + k * 6 + 3, none⟩ = some (.int .i64 q3) from hcq 3 _ rfl)
        have qz4 := hgw.keep (show w.cell? ⟨b, off + k * 6 + 4, none⟩ = some (.string q4) from hcq 4 _ rfl)
        have qz5 := hgw.keep (show w.cell? ⟨b, off + k * 6 + 5, none⟩ = some (.slice aq5 q5.length kq5) from hcq 5 _ rfl)
        have qzb := blk qz0
        clear hcsq hcq hrq hyq
        have HQ5 := Lib.hid hq5
        clear hgw hq5
        have j0 : (0 : Int) ≤ (k : Int) := by omega
        have j1 : (k : Int) ≤ (kt0 : Int) := by omega
        have j2 : (k : Int) < (t0.length : Int) := by omega
        by_cases hid : 1 ≤ q0 ∧ q0 ≤ 999
        · have HID := Lib.hid hid
          have hT : TestNode (W1.alloc (.cells #[.int .i64 q0, .int .i64 q1, .int .i64 q2, .int .i64 q3, .string q4, .slice aq5 q5.length kq5] 84)) 80 #[.pointer (some ⟨W1.heap.size, 0, none⟩)] (fun n => decide (n.1 = q0)) (t0.take k) :=
            ⟨Try.call80, fun y _ x fp cs hy => treeTest_any y q0 W1.heap.size _ hy (Gr.keep (Gr.ext (Gr.refl _) x) (box_cell rfl rfl))⟩
          have HTT := Lib.hid hT
          clear hT hid
          go_wp2_with fail
          refine (within_in _ _ _ _ HID.out.1 HID.out.2).mono ?_
          rintro e w' ⟨rfl, rfl⟩
          go_wp2_with fail
          refine (containsFuncNode_any _ _ (t0.take k) _ _ _ _ (HTK.out.gr (HGW.out.trans (by repeat (first | exact Gr.refl _ | apply Gr.ext | apply Gr.alloc | apply Gr.drew)))) HTT.out).mono ?_
          rintro e w' ⟨rfl, x1, rfl⟩
          by_cases hdup : (t0.take k).any (fun n => decide (n.1 = q0)) = true
          · have HD := Lib.hid hdup
            go_wp2_with fail
            go_ret
            refine ⟨ret_bool (treeOf_no fun h => ?_).symm, HGW.out.trans (by repeat (first | exact Gr.refl _ | apply Gr.ext | apply Gr.alloc | apply Gr.drew))⟩
            have h1 := HD.out
            rw [show q0 = t0[k].1 by rw [← HYq.out]] at h1
            obtain ⟨j, hj, hjk, e⟩ := (any_ids hlt).1 h1
            exact (h.2.1 k hlt).2 j hj hjk e
          · have hdn : (t0.take k).any (fun n => decide (n.1 = q0)) = false := eq_false_of_ne_true hdup
            have HD := Lib.hid hdup
            clear hdup
            go_wp2_with fail
            refine ⟨⟨k + 1, by omega, Lib.hid fun i hi hik => ?_, HGR.out.trans (by repeat (first | exact Gr.refl _ | apply Gr.ext | apply Gr.alloc | apply Gr.drew)), by go_num⟩, by simp [intOf]; omega⟩
            by_cases hik2 : i < k
            · exact HK.out i hi hik2
            · obtain rfl : i = k := by omega
              refine ⟨by rw [← HYq.out]; exact HID.out, fun j hj hji e => HD.out ?_⟩
              rw [show q0 = t0[i].1 by rw [← HYq.out]]
              exact (any_ids hlt).2 ⟨j, hj, hji, e⟩
        · have HID := Lib.hid hid
          have hor : q0 < 1 ∨ 999 < q0 := by omega
          have HOR := Lib.hid hor
          clear hid hor
          go_wp2_with fail
          refine (within_out _ _ _ _ HOR.out).mono ?_
          rintro e w' ⟨rfl, rfl⟩
          go_wp2_with fail
          go_ret
          refine ⟨ret_bool (treeOf_no fun h => HID.out ?_).symm, HGW.out.trans (by repeat (first | exact Gr.refl _ | apply Gr.ext | apply Gr.alloc | apply Gr.drew))⟩
          have := (h.2.1 k hlt).1
          rw [← HYq.out] at this
          exact this
      · have hk2 : k = t0.length := by omega
        subst hk2
        have hids : idsOK t0 := fun i hi => HK.out i hi hi
        have HIDS := Lib.hid hids
        obtain ⟨res, hres⟩ : ∃ z, z = walkT (g0, g1) t0 (t0.length + 1) 0 (-1) 0 s := ⟨_, rfl⟩
        have HRES := Lib.hid hres
        have hgw : Gr w W1 := gB.trans HGR.out
        have HC := Lib.hid (fun x : Ext => subtreeEnd_all (g0, g1) t0 (t0.length + 1) _ _ _ _ 0 (-1) 0 s (W1.ext x) (Rd.gr HG.out (hgw.trans (by repeat (first | exact Gr.refl _ | apply Gr.ext | apply Gr.alloc | apply Gr.drew)))) (Rd.gr HT.out (hgw.trans (by repeat (first | exact Gr.refl _ | apply Gr.ext | apply Gr.alloc | apply Gr.drew)))) (by omega) (by omega) (by omega))
        have HGW := Lib.hid hgw
        clear hids hres hgw
        go_wp2_with fail
        refine wp_region_grown (by kernel_rfl) (by kernel_rfl) ?_
        repeat (go_big_quiet_step ((go_at_call 81; exact grown_call (HC.out _))))
        refine wpQuiet_nil ?_
        intro _ hw'
        obtain ⟨nx, hw''⟩ := hw'
        subst hw''
        rw [← HRES.out]
        by_cases hr : res = (t0.length : Int)
        · have HR := Lib.hid hr
          have ht : (res == (t0.length : Int)) = true := by simpa using hr
          clear hr
          go_wp2_with fail
          go_ret
          exact ⟨ret_bool (by rw [ht, treeOf_yes HLN.out HIDS.out (by rw [← HRES.out]; exact HR.out)]), HGW.out.trans (by repeat (first | exact Gr.refl _ | apply Gr.ext | apply Gr.alloc | apply Gr.drew))⟩
        · have HR := Lib.hid hr
          have ht : (res == (t0.length : Int)) = false := by simpa using hr
          clear hr
          go_wp2_with fail
          go_ret
          exact ⟨ret_bool (by rw [ht, treeOf_no fun h => HR.out (by rw [HRES.out]; exact h.2.2)]), HGW.out.trans (by repeat (first | exact Gr.refl _ | apply Gr.ext | apply Gr.alloc | apply Gr.drew))⟩
  · have HLN := Lib.hid hlen
    have hor : (t0.length : Int) < 1 ∨ 16 < (t0.length : Int) := by omega
    have HO := Lib.hid hor
    clear hlen hor
    go_enter Try.func60, Try.ntmps60
    go_wp2_with fail
    refine (within_out _ _ _ _ HO.out).mono ?_
    rintro e w' ⟨rfl, rfl⟩
    go_wp2_with fail
    go_ret
    exact ⟨ret_bool (treeOf_no fun h => HLN.out h.1).symm, (by repeat (first | exact Gr.refl _ | apply Gr.ext | apply Gr.alloc | apply Gr.drew))⟩
end Go.Proofs.Ytbfmeiooeaaibaa
