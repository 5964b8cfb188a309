/- Nodes of a tree: their Ids and symbols. No condition. -/
import Derived.Test.YtbfmeiooeaaibaaGreatTreeL
import Derived.Test.YtbfmeiooeaaibaaGreatFuncNode
import Derived.Test.YtbfmeiooeaaibaaGreatIntsB
import Derived.Deep.RegionHeld3
namespace Go.Proofs.YtbfmeiooeaaibaaGreat
open Go.RowKit
variable {d : Nat}

theorem ret_str {a b : ByteArray} (h : a = b) : Ending.returned (.string a) = Ending.returned (.string b) := by rw [h]

set_option maxRecDepth 10000 in
set_option maxHeartbeats 4000000 in
theorem isNode_any {ft : List Nat} {ct : Array Value} (t : GTree) (i : Int) (w : World) (ht : Rd.rd ft w ct.toList t) :
    Calls Tryz.prog 94 #[.agg ct, .int .i64 i] w fun e w' => e = .returned (.bool (decide (0 ≤ i) && decide (i ≤ (t.length : Int) - 1))) ∧ Gr w w' := by
  have HT := Lib.hid ht
  obtain ⟨t0, rfl⟩ : ∃ y, y = t := ⟨t, rfl⟩
  obtain ⟨vt0, ft0, rfl, hfpt, ht0⟩ := rdTree_inv t0 ht
  have FPt := Lib.hid hfpt
  clear hfpt
  obtain ⟨at0, kt0, rfl, ot01, ot02, ot03⟩ := ht0.open
  clear ht
  go_enter Tryz.func94, Tryz.ntmps94
  go_wp2_with fail
  refine (within_any _ _ _ _).mono ?_
  rintro e w' ⟨rfl, rfl⟩
  go_wp2_with fail
  go_ret
  exact ⟨rfl, (by repeat (first | exact Gr.refl _ | apply Gr.ext | apply Gr.alloc | apply Gr.drew))⟩

theorem isNode_yes {ft : List Nat} {ct : Array Value} (t : List GNode) (i : Int) (w : World) (ht : Rd.rd ft w ct.toList t) (h : 0 ≤ i) (h' : i ≤ (t.length : Int) - 1) :
    Calls Tryz.prog 94 #[.agg ct, .int .i64 i] w fun e w' => e = .returned (.bool true) ∧ Gr w w' :=
  (isNode_any t i w ht).mono fun e w' ⟨he, hw⟩ => ⟨by rw [he, decide_eq_true h, decide_eq_true h']; rfl, hw⟩
theorem isNode_no {ft : List Nat} {ct : Array Value} (t : List GNode) (i : Int) (w : World) (ht : Rd.rd ft w ct.toList t) (h : i < 0 ∨ (t.length : Int) - 1 < i) :
    Calls Tryz.prog 94 #[.agg ct, .int .i64 i] w fun e w' => e = .returned (.bool false) ∧ Gr w w' :=
  (isNode_any t i w ht).mono fun e w' ⟨he, hw⟩ => ⟨by rw [he, Bool.and_eq_false_iff.2 (h.imp (fun h => decide_eq_false (by omega)) (fun h => decide_eq_false (by omega)))], hw⟩

theorem nodeTest_any {fp : List Nat} {cs : Array Value} (x : GNode) (id : Int) (b : Nat) (w : World) (hx : Rd.rd fp w cs.toList x) (hc : w.cell? ⟨b, 0, none⟩ = some (.int .i64 id)) :
    Calls Tryz.prog 126 #[.agg cs, .pointer (some ⟨b, 0, none⟩)] w fun e w' => e = .returned (.bool (decide (x.1 = id))) ∧ Gr w w' := by
  have hb := blk hc
  obtain ⟨q0, q1, q2, q3, q4, q5⟩ := x
  obtain ⟨v5, f5, rfl, -, -, -, -, -, -, h5⟩ := rdNode_inv q0 q1 q2 q3 q4 q5 hx
  obtain ⟨a5, k5, rfl, -, -, -⟩ := h5.open
  clear hx h5
  go_enter Tryz.func126, Tryz.ntmps126
  go_wp2_with fail
  go_ret
  exact ⟨ret_bool (by simp [BEq.beq]), (by repeat (first | exact Gr.refl _ | apply Gr.ext | apply Gr.alloc | apply Gr.drew))⟩

set_option maxRecDepth 10000 in
set_option maxHeartbeats 4000000 in
theorem implNodeIx_any {ft : List Nat} {ct : Array Value} (t : GTree) (i : Int) (w : World) (ht : Rd.rd ft w ct.toList t) :
    Calls Tryz.prog 90 #[.agg ct, .int .i64 i] w fun e w' => e = .returned (.int .i64 (nodeIx t i)) ∧ Gr w w' := by
  have HT := Lib.hid ht
  obtain ⟨t0, rfl⟩ : ∃ y, y = t := ⟨t, rfl⟩
  obtain ⟨vt0, ft0, rfl, hfpt, ht0⟩ := rdTree_inv t0 ht
  have FPt := Lib.hid hfpt
  clear hfpt
  obtain ⟨at0, kt0, rfl, ot01, ot02, ot03⟩ := ht0.open
  clear ht
  have hT : TestNode ((w.alloc (.cells #[.slice at0 t0.length kt0] 47)).alloc (.cells #[.int .i64 i] 3)) 126 #[.pointer (some ⟨w.heap.size + 1, 0, none⟩)] (fun n => decide (n.1 = i)) t0 :=
    ⟨Tryz.call126, fun y _ x fp cs hy => nodeTest_any y i (w.heap.size + 1) _ hy (Gr.keep (Gr.ext (Gr.refl _) x) (box_cell (by simp) rfl))⟩
  have HTT := Lib.hid hT
  clear hT
  go_enter Tryz.func90, Tryz.ntmps90
  go_wp2_with fail
  refine (indexFuncNode_any _ _ t0 _ _ _ _ (ht0.gr (by repeat (first | exact Gr.refl _ | apply Gr.ext | apply Gr.alloc | apply Gr.drew))) HTT.out).mono ?_
  rintro e w' ⟨rfl, x1, rfl⟩
  go_wp2_with fail
  go_ret
  exact ⟨rfl, (by repeat (first | exact Gr.refl _ | apply Gr.ext | apply Gr.alloc | apply Gr.drew))⟩

set_option maxRecDepth 10000 in
set_option maxHeartbeats 4000000 in
theorem implSymOf_any {fg : List Nat} {cg : Array Value} (g : (GGrammar d)) {ft : List Nat} {ct : Array Value} (t : GTree) (i : Int) (w : World) (hg : Rd.rd fg w cg.toList g) (ht : Rd.rd ft w ct.toList t) :
    Calls Tryz.prog 92 #[.agg cg, .agg ct, .int .i64 i] w fun e w' => e = .returned (.string (symAt g t i)) ∧ Gr w w' := by
  have HG := Lib.hid hg
  obtain ⟨g0, g1⟩ := g
  obtain ⟨vg0, fg0, vg1, fg1, rfl, hfpg, hg0, hg1⟩ := rdGrammar_inv g0 g1 hg
  have FPg := Lib.hid hfpg
  clear hfpg
  obtain ⟨ag0, kg0, rfl, og01, og02, og03⟩ := hg0.open
  obtain ⟨ag1, kg1, rfl, og11, og12, og13⟩ := hg1.open
  clear hg
  have HT := Lib.hid ht
  obtain ⟨t0, rfl⟩ : ∃ y, y = t := ⟨t, rfl⟩
  obtain ⟨vt0, ft0, rfl, hfpt, ht0⟩ := rdTree_inv t0 ht
  have FPt := Lib.hid hfpt
  clear hfpt
  obtain ⟨at0, kt0, rfl, ot01, ot02, ot03⟩ := ht0.open
  clear ht
  by_cases hin : 0 ≤ i ∧ i ≤ (t0.length : Int) - 1
  · obtain ⟨n, rfl⟩ : ∃ n : Nat, i = n := ⟨i.toNat, by omega⟩
    have hlt : n < t0.length := by omega
    have HI := Lib.hid hin
    have hs : symAt (g0, g1) t0 (n : Int) = leftOf (g0, g1) t0[n] := by unfold symAt; rw [nth_in hlt]
    have HS := Lib.hid hs
    clear hin hs
    obtain ⟨b, off, rfl, hbb⟩ := ot03 n hlt
    obtain ⟨csq, feq, hcq, hrq, -⟩ := ht0.at hlt
    obtain ⟨yq, hyq⟩ : ∃ y, y = t0[n] := ⟨_, rfl⟩
    rw [← hyq] at hrq
    have HYq := Lib.hid hyq
    have HRq := Lib.hid hrq
    obtain ⟨q0, q1, q2, q3, q4, q5⟩ := yq
    obtain ⟨vq5, fq5, hcsq, -, hq0, hq1, hq2, hq3, hq4, hq5⟩ := rdNode_inv (cs := csq.toArray) q0 q1 q2 q3 q4 q5 (by simpa using hrq)
    obtain rfl : csq = [.int .i64 q0, .int .i64 q1, .int .i64 q2, .int .i64 q3, .string q4, vq5] := by have := congrArg Array.toList hcsq; simpa using this
    obtain ⟨aq5, kq5, rfl, oq51, oq52, oq53⟩ := hq5.open
    have qz0 : w.cell? ⟨b, off + n * 6, none⟩ = some (.int .i64 q0) := by simpa [Rd.n] using hcq 0 _ rfl
    have qz1 : w.cell? ⟨b, off + n * 6 + 1, none⟩ = some (.int .i64 q1) := hcq 1 _ rfl
    have qz2 : w.cell? ⟨b, off + n * 6 + 2, none⟩ = some (.int .i64 q2) := hcq 2 _ rfl
    have qz3 : w.cell? ⟨b, off + n * 6 + 3, none⟩ = some (.int .i64 q3) := hcq 3 _ rfl
    have qz4 : w.cell? ⟨b, off + n * 6 + 4, none⟩ = some (.string q4) := hcq 4 _ rfl
    have qz5 : w.cell? ⟨b, off + n * 6 + 5, none⟩ = some (.slice aq5 q5.length kq5) := hcq 5 _ rfl
    have qzb := blk qz0
    clear hcsq hcq hrq hyq
    have i0 : (0 : Int) ≤ (n : Int) := by omega
    have i1 : (n : Int) < (t0.length : Int) := by omega
    go_enter Tryz.func92, Tryz.ntmps92
    go_wp2_with fail
    refine (isNode_yes t0 _ _ (Rd.gr HT.out (by repeat (first | exact Gr.refl _ | apply Gr.ext | apply Gr.alloc | apply Gr.drew))) HI.out.1 HI.out.2).mono ?_
    rintro e w' ⟨rfl, x1, rfl⟩
    go_wp2_with fail
    generalize hB : (((w.alloc (.cells #[.slice ag0 g0.length kg0, .slice ag1 g1.length kg1] 43)).alloc (.cells #[.slice (some ⟨b, off, none⟩) t0.length kt0] 47)).ext x1) = B
    have gB : Gr w B := by rw [← hB]; exact (by repeat (first | exact Gr.refl _ | apply Gr.ext | apply Gr.alloc | apply Gr.drew))
    have bB0 : ∀ w' : World, Gr B w' → w'.cell? ⟨w.heap.size, 0, none⟩ = some (.slice ag0 g0.length kg0) := fun w' hg => hg.keep (by rw [← hB]; repeat (first | exact box_cell (by first | rfl | (simp; done) | (simp; omega)) rfl | refine Gr.keep (Gr.alloc (Gr.refl _) _) ?_ | refine Gr.keep (Gr.ext (Gr.refl _) _) ?_ | refine Gr.keep (Gr.drew (Gr.refl _)) ?_))
    have bB1 : ∀ w' : World, Gr B w' → w'.cell? ⟨w.heap.size, 1, none⟩ = some (.slice ag1 g1.length kg1) := fun w' hg => hg.keep (by rw [← hB]; repeat (first | exact box_cell (by first | rfl | (simp; done) | (simp; omega)) rfl | refine Gr.keep (Gr.alloc (Gr.refl _) _) ?_ | refine Gr.keep (Gr.ext (Gr.refl _) _) ?_ | refine Gr.keep (Gr.drew (Gr.refl _)) ?_))
    have bB2 : ∀ w' : World, Gr B w' → w'.cell? ⟨w.heap.size + 1, 0, none⟩ = some (.slice (some ⟨b, off, none⟩) t0.length kt0) := fun w' hg => hg.keep (by rw [← hB]; repeat (first | exact box_cell (by first | rfl | (simp; done) | (simp; omega)) rfl | refine Gr.keep (Gr.alloc (Gr.refl _) _) ?_ | refine Gr.keep (Gr.ext (Gr.refl _) _) ?_ | refine Gr.keep (Gr.drew (Gr.refl _)) ?_))
    have sB : B.heap.size = w.heap.size + 2 + x1.objs.size := by rw [← hB]; first | (simp; done) | (simp; omega)
    have EB := Lib.hid hB
    clear hB
    have kq := fun (w' : World) (hg : Gr B w') => (gB.trans hg).keep qz4
    go_region_held3 (fun w' => Gr B w') (first | assumption | exact Gr.drew (Gr.refl _) | (repeat (first | assumption | exact Gr.refl _ | apply Gr.ext | apply Gr.alloc | apply Gr.drew)))
      (first | (go_at_call 95; refine (implFindRule_any (g0, g1) q4 _ (Rd.gr HG.out (gB.trans (by first | assumption | exact (by repeat (first | exact Gr.refl _ | apply Gr.ext | apply Gr.alloc | apply Gr.drew)))))).mono ?_; rintro e w' ⟨es, fq, rfl, hr, -, x2, rfl⟩; obtain ⟨yr, hyr⟩ : ∃ y, y = (lookR g1 q4).getD zeroR := ⟨_, rfl⟩; have hr1r := hr; change Rd.rd fq _ es.toList ((lookR g1 q4).getD zeroR) at hr1r; rw [← hyr] at hr1r; have HYr := Lib.hid hyr; have HRr := Lib.hid hr1r; obtain ⟨r0, r1, r2, r3, r4, r5⟩ := yr; obtain ⟨vr2, fr2, vr4, fr4, vr5, fr5, rfl, hfqr, hr0, hr1, hr2, hr4, hr5⟩ := rdRule_inv r0 r1 r2 r3 r4 r5 hr1r; have FQr := Lib.hid hfqr; clear hfqr; obtain ⟨ar2, kr2, rfl, or21, or22, or23⟩ := hr2.open; obtain ⟨ar4, kr4, rfl, or41, or42, or43⟩ := hr4.open; obtain ⟨ar5, kr5, rfl, or51, or52, or53⟩ := hr5.open; clear hr hr1r hyr; obtain ⟨bb, hbb⟩ : ∃ b : Bool, b = (lookR g1 q4).isSome := ⟨_, rfl⟩; rw [← hbb]; have Hbb := Lib.hid hbb; clear hbb))
    all_goals
      go_wp2_with fail
      go_ret
      exact ⟨ret_str (by rw [HS.out, ← HYq.out]; unfold leftOf; rw [← HYr.out]), gB.trans (by repeat (first | exact Gr.refl _ | apply Gr.ext | apply Gr.alloc | apply Gr.drew))⟩
  · have hor : i < 0 ∨ (t0.length : Int) - 1 < i := by omega
    have HO := Lib.hid hor
    have hs : symAt (g0, g1) t0 i = ByteArray.empty := by unfold symAt; rw [nth_out hor]
    have HS := Lib.hid hs
    clear hin hor hs
    go_enter Tryz.func92, Tryz.ntmps92
    go_wp2_with fail
    refine (isNode_no t0 _ _ (Rd.gr HT.out (by repeat (first | exact Gr.refl _ | apply Gr.ext | apply Gr.alloc | apply Gr.drew))) HO.out).mono ?_
    rintro e w' ⟨rfl, x1, rfl⟩
    go_wp2_with fail
    go_ret
    exact ⟨by rw [HS.out]; rfl, (by repeat (first | exact Gr.refl _ | apply Gr.ext | apply Gr.alloc | apply Gr.drew))⟩
end Go.Proofs.YtbfmeiooeaaibaaGreat
