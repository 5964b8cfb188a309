/- The Ids at a node, rows of numbers of one's own. The Ids at a node: the program's. The Ids at a node: the reference's. No condition. -/
import Derived.Test.YtbfmeiooeaaibaaGreatXEqn
import Derived.Test.YtbfmeiooeaaibaaGreatXTree
namespace Go.Proofs.YtbfmeiooeaaibaaGreat
open Go.RowKit
variable {d : Nat}
set_option linter.unusedVariables false

theorem OwnR.litI {w0 w : World} (e : TypeId) (h : w0.heap.size ≤ w.heap.size) {g : Nat} (hg : g = w.heap.size) {y : Int} (hy : (Lit.int .i64 y).wf = true) : OwnR (α := Int) w0 e (w.alloc (.cells #[.int .i64 y] e)) (.slice (some ⟨g, 0, none⟩) 1 1) [[]] [y] := by
  subst hg
  exact ⟨⟨[[.int .i64 y]], World.ownsRow_lit w #[.int .i64 y] 1 h (by decide) (by simp [Rd.n]), Els.one (intRd hy _)⟩, fun _ _ => by simp⟩
theorem SrcR.int3 {w : World} {e : TypeId} {x y z : Int} {g : Nat} (hg : g = w.heap.size) (hx : (Lit.int .i64 x).wf = true) (hy : (Lit.int .i64 y).wf = true) (hz : (Lit.int .i64 z).wf = true) :
    SrcR (α := Int) (w.alloc (.cells #[.int .i64 x, .int .i64 y, .int .i64 z] e)) (.slice (some ⟨g, 0, none⟩) 3 3) [[], [], []] [x, y, z] := by
  subst hg
  have h := (Els.one (intRd hx (w.alloc (.cells #[.int .i64 x, .int .i64 y, .int .i64 z] e)))).app ((Els.one (intRd hy _)).app (Els.one (intRd hz _)))
  refine .inr ⟨w.heap.size, 0, 3, _, rfl, h, fun j u hj => ?_⟩
  rw [Nat.zero_add, World.cell?_alloc_new]
  simpa using hj

/-- The Id of a node by its index. -/
def idAt (t : List GNode) (k : Int) : List Int := match nth t k with | none => [] | some n => [n.1]
/-- The Ids of a node and its children. -/
def nidsOf (t : List GNode) (i : Int) : List Int := match nth t i with | none => [] | some n => (i :: n.2.2.2.2.2).flatMap (idAt t)
theorem idAt_in {t : List GNode} {k : Nat} (h : k < t.length) : idAt t (k : Int) = [t[k].1] := by unfold idAt; rw [nth_in h]
theorem idAt_out {t : List GNode} {k : Int} (h : k < 0 ∨ (t.length : Int) - 1 < k) : idAt t k = [] := by unfold idAt; rw [nth_out h]
theorem idAt_len (t : List GNode) (k : Int) : (idAt t k).length ≤ 1 := by unfold idAt; split <;> simp
theorem ids_len (t : List GNode) (L : List Int) : (L.flatMap (idAt t)).length ≤ L.length := by
  have := flatMap_len (idAt t) 1 L fun x _ => idAt_len t x
  omega
theorem nids_in {t : List GNode} {k : Nat} (h : k < t.length) : nidsOf t (k : Int) = ((k : Int) :: t[k].2.2.2.2.2).flatMap (idAt t) := by unfold nidsOf; rw [nth_in h]
theorem nids_out {t : List GNode} {k : Int} (h : k < 0 ∨ (t.length : Int) - 1 < k) : nidsOf t k = [] := by unfold nidsOf; rw [nth_out h]
theorem node_kids {t : List GNode} (h : wtTree t ≤ 1048576) {k : Nat} (hk : k < t.length) : t[k].2.2.2.2.2.length ≤ 1048576 := by
  have h1 : wtNode t[k] ≤ wtL wtNode t := wtL_at wtNode t hk
  have h2 : wtNode t[k] = t[k].2.2.2.2.1.size + t[k].2.2.2.2.2.length := rfl
  have h3 : wtL wtNode t ≤ 1048576 := h
  omega
end Go.Proofs.YtbfmeiooeaaibaaGreat

namespace Go.Proofs.YtbfmeiooeaaibaaGreat
open Go.RowKit
variable {d : Nat}
set_option linter.unusedVariables false

set_option maxRecDepth 100000 in
set_option maxHeartbeats 8000000 in
theorem implNids_any {ft : List Nat} {ct : Array Value} (t : GTree) (i : Int) (w : World) (ht : Rd.rd ft w ct.toList t) (hl : wtTree t ≤ 1048576) :
    Calls Tryz.prog 46 #[.agg ct, .int .i64 i] w (MadeS w (nidsOf t i)) := by
  obtain ⟨i0, hi, hz0, hz1, hz2⟩ := info_parts Tryz.infoIntC
  have HZ := Lib.hid (And.intro hi (And.intro hz0 (And.intro hz1 hz2)))
  clear hi hz0 hz1 hz2
  have HWT := Lib.hid hl
  clear hl
  have HT := Lib.hid ht
  obtain ⟨t0, rfl⟩ : ∃ y, y = t := ⟨t, rfl⟩
  obtain ⟨vt0, ft0, rfl, hfpt, ht0⟩ := rdTree_inv t0 ht
  have FPt := Lib.hid hfpt
  clear hfpt
  obtain ⟨at0, kt0, rfl, ot01, ot02, ot03⟩ := ht0.open
  clear ht
  by_cases hin : 0 ≤ i ∧ i ≤ (t0.length : Int) - 1
  · obtain ⟨m, rfl⟩ : ∃ m : Nat, i = m := ⟨i.toNat, by omega⟩
    have hlt : m < t0.length := by omega
    have HIN := Lib.hid hin
    have hql := node_kids HWT.out hlt
    have hni := nids_in hlt
    obtain ⟨b, off, rfl, hbb⟩ := ot03 m hlt
    obtain ⟨csq, feq, hcq, hrq, -⟩ := ht0.at hlt
    obtain ⟨yq, hyq⟩ : ∃ y, y = t0[m] := ⟨_, rfl⟩
    rw [← hyq] at hrq
    have HYq := Lib.hid hyq
    have HRq := Lib.hid hrq
    obtain ⟨q0, q1, q2, q3, q4, q5⟩ := yq
    obtain ⟨vq5, fq5, hcsq, -, hq0, hq1, hq2, hq3, hq4, hq5⟩ := rdNode_inv (cs := csq.toArray) q0 q1 q2 q3 q4 q5 (by simpa using hrq)
    obtain rfl : csq = [.int .i64 q0, .int .i64 q1, .int .i64 q2, .int .i64 q3, .string q4, vq5] := by have := congrArg Array.toList hcsq; simpa using this
    obtain ⟨aq5, kq5, rfl, oq51, oq52, oq53⟩ := hq5.open
    have qz0 : w.cell? ⟨b, off + m * 6, none⟩ = some (.int .i64 q0) := by simpa [Rd.n] using hcq 0 _ rfl
    have qz1 : w.cell? ⟨b, off + m * 6 + 1, none⟩ = some (.int .i64 q1) := hcq 1 _ rfl
    have qz2 : w.cell? ⟨b, off + m * 6 + 2, none⟩ = some (.int .i64 q2) := hcq 2 _ rfl
    have qz3 : w.cell? ⟨b, off + m * 6 + 3, none⟩ = some (.int .i64 q3) := hcq 3 _ rfl
    have qz4 : w.cell? ⟨b, off + m * 6 + 4, none⟩ = some (.string q4) := hcq 4 _ rfl
    have qz5 : w.cell? ⟨b, off + m * 6 + 5, none⟩ = some (.slice aq5 q5.length kq5) := hcq 5 _ rfl
    have qzb := blk qz0
    clear hcsq hcq hrq hyq
    rw [← HYq.out] at hql hni
    have hq5' := hq5
    obtain ⟨gps, hsrc, -, -⟩ := SrcR.of_slR hq5
    have hgf := hsrc.flat flatInt
    have HSRC := Lib.hid hsrc
    have HGF := Lib.hid hgf
    have HM := Lib.hid (wf_small (y := (m : Int)) (by omega) (by have := ot02; omega))
    obtain ⟨L, hL⟩ : ∃ L, L = [(m : Int)] ++ q5 := ⟨_, rfl⟩
    have hLl : L.length = q5.length + 1 := by rw [hL]; simp
    have hni2 : nidsOf t0 (m : Int) = L.flatMap (idAt t0) := by rw [hni, hL]; rfl
    have HL := Lib.hid hL
    have HNI := Lib.hid hni2
    have HLL := Lib.hid hLl
    have hLb : L.length ≤ 1048577 := by simp only at hql; omega
    have i0' : (0 : Int) ≤ (m : Int) := by omega
    have i1' : (m : Int) < (t0.length : Int) := by omega
    clear hsrc hgf hni hni2 hL hin hq5' hq5
    go_enter Tryz.func46, Tryz.ntmps46
    go_wp2_with fail
    generalize hB : (w.alloc (.cells #[.slice (some ⟨b, off, none⟩) t0.length kt0] 47)) = B
    have gB : Gr w B := by rw [← hB]; exact (by repeat (first | exact Gr.refl _ | apply Gr.ext | apply Gr.alloc | apply Gr.drew))
    have bB0 : ∀ w' : World, Gr B w' → w'.cell? ⟨w.heap.size, 0, none⟩ = some (.slice (some ⟨b, off, none⟩) t0.length kt0) := fun w' hg => hg.keep (by rw [← hB]; repeat (first | ((with_reducible refine box_cell ?_ ?_) <;> first | omega | (simp; done) | (simp; omega) | rfl) | (with_reducible refine Gr.keep (Gr.alloc (Gr.refl _) _) ?_) | (with_reducible refine Gr.keep (Gr.ext (Gr.refl _) _) ?_) | (with_reducible refine Gr.keep (Gr.drew (Gr.refl _)) ?_)))
    have sB : B.heap.size = w.heap.size + 1 := by rw [← hB]; first | (simp; done) | (simp; omega)
    have EB := Lib.hid hB
    clear hB
    refine (isNode_yes t0 _ _ (Rd.gr HT.out (gB.trans (by repeat (first | exact Gr.refl _ | apply Gr.ext | apply Gr.alloc | apply Gr.drew)))) HIN.out.1 HIN.out.2).mono ?_
    rintro e W2 ⟨rfl, g2⟩
    have gB2 : Gr B W2 := ((by repeat (first | exact Gr.refl _ | apply Gr.ext | apply Gr.alloc | apply Gr.drew)) : Gr B (B.alloc (.cells #[] 3))).trans g2
    have hO5 := (OwnR.lit0 (α := Int) (w0 := B) (w := B) 3 (Nat.le_refl _) (show w.heap.size + 1 = B.heap.size by omega)).gr g2
    have HO5 := Lib.hid hO5
    have hs2 : w.heap.size + 1 < W2.heap.size := by have := g2.size; simp at this; omega
    have y0 := bB0 _ gB2
    have zy0 := blk y0
    have HB2 := Lib.hid gB2
    have uq5 := (gB.trans gB2).keep qz5
    have zuq := blk uq5
    have HGW2 := Lib.hid (gB.trans gB2)
    clear g2 gB2 hO5
    go_wp2_with (first | (at_builtin; refine wpList_append_R (α := Int) (w0 := W2) (by repeat (first | exact Gr.refl _ | apply Gr.ext | apply Gr.alloc | apply Gr.drew)) rfl _ _ 35 rfl 3 i0 (.int .i64 0) 8 Tryz.underlying35 HZ.out.1 HZ.out.2.1 HZ.out.2.2.1 HZ.out.2.2.2 rfl _ [[]] [(m : Int)] (by rfl) (OwnR.litI 3 (Nat.le_refl _) (by simp) HM.out) _ gps q5 (by rfl) (HSRC.out.gr (HGW2.out.trans (by repeat (first | exact Gr.refl _ | apply Gr.ext | apply Gr.alloc | apply Gr.drew)))) (fun b _ => by rw [HGF.out]; simp) (by unfold maxLen; simp; omega) (by simp; omega) ?_; intro v9 w9 k1 k2 k3 k4; rw [← HL.out] at k1; obtain ⟨ra, rc, rfl⟩ := k1.form; replace k1 := Lib.hid k1; replace k4 := Lib.hid k4; clear k2 k3))
    have hfr := k1.out.fresh (by unfold reachLen; omega) (by simp [HGF.out]; exact Fresh.nil _)
    obtain ⟨fL, sL, hfL⟩ := hfr
    have HFL := Lib.hid hfL
    obtain ⟨aL, cL0, eL, -, -, oL3⟩ := sL.open
    injection eL with eL1 _ eL3
    subst eL1 eL3
    obtain ⟨bL, oL, rfl, -⟩ := oL3 0 (by omega)
    have HSL := Lib.hid sL
    have HBL := Lib.hid (SlR.lt sL)
    have HK4 := k4
    have hs9 := k4.out.size
    clear k1 hfL sL oL3
    go_loopw [24, 5] (fun s24 s5 wr => ∃ (k : Nat) (fps : List (List Nat)), k ≤ L.length ∧ Hid (fps.flatten = []) ∧ Gr B wr ∧ SlR fL wr (.slice (some ⟨bL, oL, none⟩) L.length rc) L ∧ Hid (∀ b, s5.ownBlock = some b → b = w.heap.size + 1 ∨ w9.heap.size ≤ b) ∧ w9.heap.size ≤ wr.heap.size ∧ OwnR (α := Int) B 3 wr s5 fps ((L.take k).flatMap (idAt t0)) ∧ s24 = .int .i64 k) (fun s24 _ _ => L.length - (intOf s24).toNat)
    case atStart => exact ⟨0, [], by omega, Lib.hid rfl, HB2.out.trans k4.out, HSL.out, Lib.hid (fun b hb => .inl (ownB hb).symm), Nat.le_refl _, HO5.out.gr k4.out, rfl⟩
    case round =>
      obtain ⟨k, fps, hk, HF, hg, hsl, HV, hs9', hown, rfl⟩ := hrel
      rename World => W3
      have HGR := Lib.hid hg
      have HO := Lib.hid hown
      have HSL3 := Lib.hid hsl
      obtain ⟨ra, rc5, hform⟩ := hown.form
      obtain ⟨M, hM⟩ : ∃ M, M = (L.take k).flatMap (idAt t0) := ⟨_, rfl⟩
      have hMl : M.length ≤ 1048577 := by
        have := ids_len t0 (L.take k)
        rw [← hM, List.length_take] at this
        omega
      rw [← hM] at hform
      have HM2 := Lib.hid hM
      have y1 := bB0 _ hg
      have zy1 := blk y1
      subst hform
      clear hg hown hM
      by_cases hlk : k < L.length
      · obtain ⟨c, hc⟩ : ∃ c, c = L[k] := ⟨_, rfl⟩
        have cL := (hsl.int_at hlk).1
        rw [← hc] at cL
        have zcL := blk cL
        have htk : (L.take (k + 1)).flatMap (idAt t0) = M ++ idAt t0 c := by rw [List.take_succ_eq_append_getElem hlk, List.flatMap_append, ← HM2.out, ← hc]; simp
        have HTK := Lib.hid htk
        have j0 : (0 : Int) ≤ (k : Int) := by omega
        have j1 : (k : Int) < (L.length : Int) := by omega
        clear hc htk hsl
        by_cases hc : 0 ≤ c ∧ c ≤ (t0.length : Int) - 1
        · obtain ⟨n, rfl⟩ : ∃ n : Nat, c = n := ⟨c.toNat, by omega⟩
          have hlt : n < t0.length := by omega
          have HC := Lib.hid hc
          have hgw := gB.trans HGR.out
          have HGW := Lib.hid hgw
          clear qz0 qz1 qz2 qz3 qz4 qz5 uq5
          obtain ⟨csp, fep, hcp, hrp, -⟩ := ht0.at hlt
          obtain ⟨yp, hyp⟩ : ∃ y, y = t0[n] := ⟨_, rfl⟩
          rw [← hyp] at hrp
          have HYp := Lib.hid hyp
          have HRp := Lib.hid hrp
          obtain ⟨p0, p1, p2, p3, p4, p5⟩ := yp
          obtain ⟨vp5, fp5, hcsp, -, hp0, hp1, hp2, hp3, hp4, hp5⟩ := rdNode_inv (cs := csp.toArray) p0 p1 p2 p3 p4 p5 (by simpa using hrp)
          obtain rfl : csp = [.int .i64 p0, .int .i64 p1, .int .i64 p2, .int .i64 p3, .string p4, vp5] := by have := congrArg Array.toList hcsp; simpa using this
          obtain ⟨ap5, kp5, rfl, op51, op52, op53⟩ := hp5.open
          have pz0 := hgw.keep (show w.cell? ⟨b, off + n * 6, none⟩ = some (.int .i64 p0) from by simpa [Rd.n] using hcp 0 _ rfl)
          have pz1 := hgw.keep (show w.cell? ⟨b, off + n * 6 + 1, none⟩ = some (.int .i64 p1) from hcp 1 _ rfl)
          have pz2 := hgw.keep (show w.cell? ⟨b, off + n * 6 + 2, none⟩ = some (.int .i64 p2) from hcp 2 _ rfl)
          have pz3 := hgw.keep (show w.cell? ⟨b, off + n * 6 + 3, none⟩ = some (.int .i64 p3) from hcp 3 _ rfl)
          have pz4 := hgw.keep (show w.cell? ⟨b, off + n * 6 + 4, none⟩ = some (.string p4) from hcp 4 _ rfl)
          have pz5 := hgw.keep (show w.cell? ⟨b, off + n * 6 + 5, none⟩ = some (.slice ap5 p5.length kp5) from hcp 5 _ rfl)
          have pzb := blk pz0
          clear hcsp hcp hrp hyp
          have HP0 := Lib.hid hp0
          have n0' : (0 : Int) ≤ (n : Int) := by omega
          have n1' : (n : Int) < (t0.length : Int) := by omega
          have hid1 : idAt t0 (n : Int) = [p0] := by rw [idAt_in hlt, ← HYp.out]
          have HID := Lib.hid hid1
          clear hid1 hgw hp0 hp1 hp2 hp3 hp4 hp5 hc
          go_wp2_with fail
          refine (isNode_yes t0 _ _ (Rd.gr HT.out (HGW.out.trans (by repeat (first | exact Gr.refl _ | apply Gr.ext | apply Gr.alloc | apply Gr.drew)))) HC.out.1 HC.out.2).mono ?_
          rintro e w' ⟨rfl, x4, rfl⟩
          go_wp2_with (first | (at_builtin; refine wpList_append_RB (α := Int) (wg := B) (w0 := B) (HGR.out.trans (by repeat (first | exact Gr.refl _ | apply Gr.ext | apply Gr.alloc | apply Gr.drew))) (Nat.le_refl _) (HGR.out.trans (by repeat (first | exact Gr.refl _ | apply Gr.ext | apply Gr.alloc | apply Gr.drew))).size rfl _ _ 35 rfl 3 i0 (.int .i64 0) 8 Tryz.underlying35 HZ.out.1 HZ.out.2.1 HZ.out.2.2.1 HZ.out.2.2.2 rfl _ fps _ (by rfl) (HO.out.gr (by repeat (first | exact Gr.refl _ | apply Gr.ext | apply Gr.alloc | apply Gr.drew))) _ [[]] [p0] (by rfl) (SrcR.one (by simp) (intRd HP0.out _)) (fun b _ => by simp) (by rw [← HM2.out]; unfold maxLen; simp; omega) (by rw [← HM2.out]; simp; omega) ?_; intro v3 w3 h1 h2 h3 h4; replace h1 := Lib.hid h1; replace h2 := Lib.hid h2; replace h3 := Lib.hid h3; replace h4 := Lib.hid h4))
          refine ⟨⟨k + 1, fps ++ [[]], by omega, Lib.hid (by rw [List.flatten_append, HF.out]; rfl), h4.out, ?_, Lib.hid (fun b hb => ?_), Nat.le_trans hs9' (Nat.le_trans (by simp <;> omega) h2.out.size), ?_, by go_num⟩, by simp [intOf]; omega⟩
          · refine (HSL3.out.gr (by repeat (first | exact Gr.refl _ | apply Gr.ext | apply Gr.alloc | apply Gr.drew))).wr h2.out (fun b hb hm => ?_)
            have h5 := HFL.out.2 b hb
            have h6 := HBL.out b hb
            rcases HV.out b (by simpa using hm) with h | h <;> omega
          · rcases h3.out with h | h
            · exact HV.out b (h ▸ hb)
            · rw [h] at hb
              obtain rfl := Option.some.inj hb
              right; simp; omega
          · rw [HTK.out, HID.out, HM2.out]
            exact h1.out
        · have hor : c < 0 ∨ (t0.length : Int) - 1 < c := by omega
          have HC := Lib.hid hor
          have HID := Lib.hid (idAt_out hor)
          have HGW := Lib.hid (gB.trans HGR.out)
          clear hor hc
          go_wp2_with fail
          refine (isNode_no t0 _ _ (Rd.gr HT.out (HGW.out.trans (by repeat (first | exact Gr.refl _ | apply Gr.ext | apply Gr.alloc | apply Gr.drew)))) HC.out).mono ?_
          rintro e w' ⟨rfl, x4, rfl⟩
          go_wp2_with fail
          refine ⟨⟨k + 1, fps, by omega, HF, HGR.out.trans (by repeat (first | exact Gr.refl _ | apply Gr.ext | apply Gr.alloc | apply Gr.drew)), HSL3.out.gr (by repeat (first | exact Gr.refl _ | apply Gr.ext | apply Gr.alloc | apply Gr.drew)), HV, Nat.le_trans hs9' (by simp), ?_, by go_num⟩, by simp [intOf]; omega⟩
          rw [HTK.out, HID.out, List.append_nil]
          have h1 := HO.out
          rw [← HM2.out] at h1
          exact h1.gr (by repeat (first | exact Gr.refl _ | apply Gr.ext | apply Gr.alloc | apply Gr.drew))
      · have hk2 : k = L.length := by omega
        subst hk2
        have hfr := HO.out.fresh (by rw [← HM2.out]; unfold reachLen; omega) (by rw [HF.out]; exact Fresh.nil _)
        obtain ⟨fq, hs, hf⟩ := hfr
        rw [← HM2.out] at hs
        have HS := Lib.hid hs
        have HFQ := Lib.hid (hf.of_le gB.size)
        have hN : nidsOf t0 (m : Int) = M := by rw [HNI.out, HM2.out, List.take_length]
        have HN := Lib.hid hN
        clear hs hf hN
        go_wp2_with fail
        go_ret
        exact ⟨_, fq, rfl, by rw [HN.out]; exact HS.out.gr (by repeat (first | exact Gr.refl _ | apply Gr.ext | apply Gr.alloc | apply Gr.drew)), HFQ.out, gB.trans (HGR.out.trans (by repeat (first | exact Gr.refl _ | apply Gr.ext | apply Gr.alloc | apply Gr.drew)))⟩
  · have hor : i < 0 ∨ (t0.length : Int) - 1 < i := by omega
    have HO := Lib.hid hor
    have HN := Lib.hid (nids_out hor)
    clear hor hin
    go_enter Tryz.func46, Tryz.ntmps46
    go_wp2_with fail
    refine (isNode_no t0 _ _ (Rd.gr HT.out (by repeat (first | exact Gr.refl _ | apply Gr.ext | apply Gr.alloc | apply Gr.drew))) HO.out).mono ?_
    rintro e w' ⟨rfl, x1, rfl⟩
    go_wp2_with fail
    go_ret
    exact ⟨_, [], rfl, by rw [HN.out]; exact ⟨_, 0, rfl, by simp, by simp, .inl ⟨rfl, rfl⟩⟩, Fresh.nil _, (by repeat (first | exact Gr.refl _ | apply Gr.ext | apply Gr.alloc | apply Gr.drew))⟩
end Go.Proofs.YtbfmeiooeaaibaaGreat

namespace Go.Proofs.YtbfmeiooeaaibaaGreat
open Go.RowKit
variable {d : Nat}
set_option linter.unusedVariables false

set_option maxRecDepth 100000 in
set_option maxHeartbeats 8000000 in
theorem specNids_any {ft : List Nat} {ct : Array Value} (t : GTree) (i : Int) (w : World) (ht : Rd.rd ft w ct.toList t) (hl : wtTree t ≤ 1048576) :
    Calls Tryz.prog 38 #[.agg ct, .int .i64 i] w (MadeS w (nidsOf t i)) := by
  obtain ⟨i0, hi, hz0, hz1, hz2⟩ := info_parts Tryz.infoIntC
  have HZ := Lib.hid (And.intro hi (And.intro hz0 (And.intro hz1 hz2)))
  clear hi hz0 hz1 hz2
  have HWT := Lib.hid hl
  clear hl
  have HT := Lib.hid ht
  obtain ⟨t0, rfl⟩ : ∃ y, y = t := ⟨t, rfl⟩
  obtain ⟨vt0, ft0, rfl, hfpt, ht0⟩ := rdTree_inv t0 ht
  have FPt := Lib.hid hfpt
  clear hfpt
  obtain ⟨at0, kt0, rfl, ot01, ot02, ot03⟩ := ht0.open
  clear ht
  by_cases hin : 0 ≤ i ∧ i ≤ (t0.length : Int) - 1
  · obtain ⟨m, rfl⟩ : ∃ m : Nat, i = m := ⟨i.toNat, by omega⟩
    have hlt : m < t0.length := by omega
    have HIN := Lib.hid hin
    have hql := node_kids HWT.out hlt
    have hni := nids_in hlt
    obtain ⟨b, off, rfl, hbb⟩ := ot03 m hlt
    obtain ⟨csq, feq, hcq, hrq, -⟩ := ht0.at hlt
    obtain ⟨yq, hyq⟩ : ∃ y, y = t0[m] := ⟨_, rfl⟩
    rw [← hyq] at hrq
    have HYq := Lib.hid hyq
    have HRq := Lib.hid hrq
    obtain ⟨q0, q1, q2, q3, q4, q5⟩ := yq
    obtain ⟨vq5, fq5, hcsq, -, hq0, hq1, hq2, hq3, hq4, hq5⟩ := rdNode_inv (cs := csq.toArray) q0 q1 q2 q3 q4 q5 (by simpa using hrq)
    obtain rfl : csq = [.int .i64 q0, .int .i64 q1, .int .i64 q2, .int .i64 q3, .string q4, vq5] := by have := congrArg Array.toList hcsq; simpa using this
    obtain ⟨aq5, kq5, rfl, oq51, oq52, oq53⟩ := hq5.open
    have qz0 : w.cell? ⟨b, off + m * 6, none⟩ = some (.int .i64 q0) := by simpa [Rd.n] using hcq 0 _ rfl
    have qz1 : w.cell? ⟨b, off + m * 6 + 1, none⟩ = some (.int .i64 q1) := hcq 1 _ rfl
    have qz2 : w.cell? ⟨b, off + m * 6 + 2, none⟩ = some (.int .i64 q2) := hcq 2 _ rfl
    have qz3 : w.cell? ⟨b, off + m * 6 + 3, none⟩ = some (.int .i64 q3) := hcq 3 _ rfl
    have qz4 : w.cell? ⟨b, off + m * 6 + 4, none⟩ = some (.string q4) := hcq 4 _ rfl
    have qz5 : w.cell? ⟨b, off + m * 6 + 5, none⟩ = some (.slice aq5 q5.length kq5) := hcq 5 _ rfl
    have qzb := blk qz0
    clear hcsq hcq hrq hyq
    rw [← HYq.out] at hql hni
    have HQ5 := Lib.hid hq5
    have HQ0 := Lib.hid hq0
    have HNI := Lib.hid hni
    have hqb : q5.length ≤ 1048576 := hql
    have hid0 : idAt t0 (m : Int) = [q0] := by rw [idAt_in hlt, ← HYq.out]
    have HID0 := Lib.hid hid0
    have i0' : (0 : Int) ≤ (m : Int) := by omega
    have i1' : (m : Int) < (t0.length : Int) := by omega
    clear hni hin hq5 hq0 hq1 hq2 hq3 hq4 hid0 hql
    go_enter Tryz.func38, Tryz.ntmps38
    go_wp2_with fail
    generalize hB : (w.alloc (.cells #[.slice (some ⟨b, off, none⟩) t0.length kt0] 47)) = B
    have gB : Gr w B := by rw [← hB]; exact (by repeat (first | exact Gr.refl _ | apply Gr.ext | apply Gr.alloc | apply Gr.drew))
    have bB0 : ∀ w' : World, Gr B w' → w'.cell? ⟨w.heap.size, 0, none⟩ = some (.slice (some ⟨b, off, none⟩) t0.length kt0) := fun w' hg => hg.keep (by rw [← hB]; repeat (first | ((with_reducible refine box_cell ?_ ?_) <;> first | omega | (simp; done) | (simp; omega) | rfl) | (with_reducible refine Gr.keep (Gr.alloc (Gr.refl _) _) ?_) | (with_reducible refine Gr.keep (Gr.ext (Gr.refl _) _) ?_) | (with_reducible refine Gr.keep (Gr.drew (Gr.refl _)) ?_)))
    have sB : B.heap.size = w.heap.size + 1 := by rw [← hB]; first | (simp; done) | (simp; omega)
    have EB := Lib.hid hB
    clear hB
    have y0 := bB0 _ (Gr.refl _)
    have zy0 := blk y0
    refine (l1In_yes (m : Int) 0 _ _ HIN.out.1 HIN.out.2).mono ?_
    rintro e w' ⟨rfl, x1, rfl⟩
    have vq0 := gB.keep qz0
    have vq5 := gB.keep qz5
    have zvq := blk vq0
    have hO5 : OwnR (α := Int) B 3 ((B.alloc (.cells #[] 3)).ext x1) (.slice (some ⟨w.heap.size + 1, 0, none⟩) 0 0) [] [] := (OwnR.lit0 (α := Int) (w0 := B) (w := B) 3 (Nat.le_refl _) (show w.heap.size + 1 = B.heap.size by omega)).gr (by repeat (first | exact Gr.refl _ | apply Gr.ext | apply Gr.alloc | apply Gr.drew))
    have HO5 := Lib.hid hO5
    clear hO5
    go_wp2_with (first | (at_builtin; refine wpList_append_R (α := Int) (w0 := B) (by repeat (first | exact Gr.refl _ | apply Gr.ext | apply Gr.alloc | apply Gr.drew)) rfl _ _ 35 rfl 3 i0 (.int .i64 0) 8 Tryz.underlying35 HZ.out.1 HZ.out.2.1 HZ.out.2.2.1 HZ.out.2.2.2 rfl _ [] [] (by rfl) (HO5.out.gr (by repeat (first | exact Gr.refl _ | apply Gr.ext | apply Gr.alloc | apply Gr.drew))) _ [[]] [q0] (by rfl) (SrcR.one (by simp <;> omega) (intRd HQ0.out _)) (fun b _ => by simp) (by unfold maxLen; simp) (by simp) ?_; intro v9 w9 k1 k2 k3 k4; replace k1 := Lib.hid k1; replace k4 := Lib.hid k4; clear k2 k3))
    go_loopw [6, 5] (fun s6 s5 wr => ∃ (k : Nat) (fps : List (List Nat)), k ≤ q5.length ∧ Hid (fps.flatten = []) ∧ Gr B wr ∧ OwnR (α := Int) B 3 wr s5 fps (((m : Int) :: q5.take k).flatMap (idAt t0)) ∧ s6 = .int .i64 k) (fun s6 _ _ => q5.length - (intOf s6).toNat)
    case atStart => exact ⟨0, [[]], by omega, Lib.hid rfl, k4.out, by rw [List.take_zero, List.flatMap_cons, HID0.out]; exact k1.out, rfl⟩
    case round =>
      obtain ⟨k, fps, hk, HF, hg, hown, rfl⟩ := hrel
      rename World => W3
      have HGR := Lib.hid hg
      have HO := Lib.hid hown
      obtain ⟨ra, rc5, hform⟩ := hown.form
      obtain ⟨M, hM⟩ : ∃ M, M = ((m : Int) :: q5.take k).flatMap (idAt t0) := ⟨_, rfl⟩
      have hMl : M.length ≤ 1048577 := by
        have := ids_len t0 ((m : Int) :: q5.take k)
        rw [← hM, List.length_cons, List.length_take] at this
        omega
      rw [← hM] at hform
      have HM2 := Lib.hid hM
      have y1 := bB0 _ hg
      have zy1 := blk y1
      have hgw := gB.trans hg
      have uq5 := hgw.keep qz5
      have zuq := blk uq5
      have HGW := Lib.hid hgw
      subst hform
      clear hg hown hM hgw
      by_cases hlk : k < q5.length
      · obtain ⟨c, hc⟩ : ∃ c, c = q5[k] := ⟨_, rfl⟩
        obtain ⟨bL, oL, rfl, hbL⟩ := oq53 k hlk
        have cL := HGW.out.keep (HQ5.out.int_at hlk).1
        rw [← hc] at cL
        have zcL := blk cL
        have htk : ((m : Int) :: q5.take (k + 1)).flatMap (idAt t0) = M ++ idAt t0 c := by rw [List.take_succ_eq_append_getElem hlk, ← List.cons_append, List.flatMap_append, ← HM2.out, ← hc]; simp
        have HTK := Lib.hid htk
        have j0 : (0 : Int) ≤ (k : Int) := by omega
        have j1 : (k : Int) < (q5.length : Int) := by omega
        clear hc htk
        by_cases hc : 0 ≤ c ∧ c ≤ (t0.length : Int) - 1
        · obtain ⟨n, rfl⟩ : ∃ n : Nat, c = n := ⟨c.toNat, by omega⟩
          have hlt : n < t0.length := by omega
          have HC := Lib.hid hc
          have hgw := HGW.out
          obtain ⟨csp, fep, hcp, hrp, -⟩ := ht0.at hlt
          obtain ⟨yp, hyp⟩ : ∃ y, y = t0[n] := ⟨_, rfl⟩
          rw [← hyp] at hrp
          have HYp := Lib.hid hyp
          have HRp := Lib.hid hrp
          obtain ⟨p0, p1, p2, p3, p4, p5⟩ := yp
          obtain ⟨vp5, fp5, hcsp, -, hp0, hp1, hp2, hp3, hp4, hp5⟩ := rdNode_inv (cs := csp.toArray) p0 p1 p2 p3 p4 p5 (by simpa using hrp)
          obtain rfl : csp = [.int .i64 p0, .int .i64 p1, .int .i64 p2, .int .i64 p3, .string p4, vp5] := by have := congrArg Array.toList hcsp; simpa using this
          obtain ⟨ap5, kp5, rfl, op51, op52, op53⟩ := hp5.open
          have pz0 := hgw.keep (show w.cell? ⟨b, off + n * 6, none⟩ = some (.int .i64 p0) from by simpa [Rd.n] using hcp 0 _ rfl)
          have pz1 := hgw.keep (show w.cell? ⟨b, off + n * 6 + 1, none⟩ = some (.int .i64 p1) from hcp 1 _ rfl)
          have pz2 := hgw.keep (show w.cell? ⟨b, off + n * 6 + 2, none⟩ = some (.int .i64 p2) from hcp 2 _ rfl)
          have pz3 := hgw.keep (show w.cell? ⟨b, off + n * 6 + 3, none⟩ = some (.int .i64 p3) from hcp 3 _ rfl)
          have pz4 := hgw.keep (show w.cell? ⟨b, off + n * 6 + 4, none⟩ = some (.string p4) from hcp 4 _ rfl)
          have pz5 := hgw.keep (show w.cell? ⟨b, off + n * 6 + 5, none⟩ = some (.slice ap5 p5.length kp5) from hcp 5 _ rfl)
          have pzb := blk pz0
          clear hcsp hcp hrp hyp
          have HP0 := Lib.hid hp0
          have n0' : (0 : Int) ≤ (n : Int) := by omega
          have n1' : (n : Int) < (t0.length : Int) := by omega
          have hid1 : idAt t0 (n : Int) = [p0] := by rw [idAt_in hlt, ← HYp.out]
          have HID := Lib.hid hid1
          clear hid1 hgw hp0 hp1 hp2 hp3 hp4 hp5 hc
          go_wp2_with fail
          refine (l1In_yes (n : Int) 0 _ _ HC.out.1 HC.out.2).mono ?_
          rintro e w' ⟨rfl, x4, rfl⟩
          go_wp2_with (first | (at_builtin; refine wpList_append_R (α := Int) (w0 := B) (HGR.out.trans (by repeat (first | exact Gr.refl _ | apply Gr.ext | apply Gr.alloc | apply Gr.drew))) rfl _ _ 35 rfl 3 i0 (.int .i64 0) 8 Tryz.underlying35 HZ.out.1 HZ.out.2.1 HZ.out.2.2.1 HZ.out.2.2.2 rfl _ fps _ (by rfl) (HO.out.gr (by repeat (first | exact Gr.refl _ | apply Gr.ext | apply Gr.alloc | apply Gr.drew))) _ [[]] [p0] (by rfl) (SrcR.one (by simp) (intRd HP0.out _)) (fun b _ => by simp) (by rw [← HM2.out]; unfold maxLen; simp; omega) (by rw [← HM2.out]; simp; omega) ?_; intro v3 w3 h1 h2 h3 h4; replace h1 := Lib.hid h1; replace h4 := Lib.hid h4; clear h2 h3))
          refine ⟨⟨k + 1, fps ++ [[]], by omega, Lib.hid (by rw [List.flatten_append, HF.out]; rfl), h4.out, ?_, by go_num⟩, by simp [intOf]; omega⟩
          rw [HTK.out, HID.out, HM2.out]
          exact h1.out
        · have hor : c < 0 ∨ (t0.length : Int) - 1 < c := by omega
          have HC := Lib.hid hor
          have HID := Lib.hid (idAt_out hor)
          clear hor hc
          go_wp2_with fail
          refine (l1In_no c 0 _ _ HC.out).mono ?_
          rintro e w' ⟨rfl, x4, rfl⟩
          go_wp2_with fail
          refine ⟨⟨k + 1, fps, by omega, HF, HGR.out.trans (by repeat (first | exact Gr.refl _ | apply Gr.ext | apply Gr.alloc | apply Gr.drew)), ?_, by go_num⟩, by simp [intOf]; omega⟩
          rw [HTK.out, HID.out, List.append_nil]
          have h1 := HO.out
          rw [← HM2.out] at h1
          exact h1.gr (by repeat (first | exact Gr.refl _ | apply Gr.ext | apply Gr.alloc | apply Gr.drew))
      · have hk2 : k = q5.length := by omega
        subst hk2
        have hfr := HO.out.fresh (by rw [← HM2.out]; unfold reachLen; omega) (by rw [HF.out]; exact Fresh.nil _)
        obtain ⟨fq, hs, hf⟩ := hfr
        rw [← HM2.out] at hs
        have HS := Lib.hid hs
        have HFQ := Lib.hid (hf.of_le gB.size)
        have hN : nidsOf t0 (m : Int) = M := by rw [HNI.out, HM2.out, List.take_length]
        have HN := Lib.hid hN
        clear hs hf hN
        go_wp2_with fail
        go_ret
        exact ⟨_, fq, rfl, by rw [HN.out]; exact HS.out.gr (by repeat (first | exact Gr.refl _ | apply Gr.ext | apply Gr.alloc | apply Gr.drew)), HFQ.out, gB.trans (HGR.out.trans (by repeat (first | exact Gr.refl _ | apply Gr.ext | apply Gr.alloc | apply Gr.drew)))⟩
  · have hor : i < 0 ∨ (t0.length : Int) - 1 < i := by omega
    have HO := Lib.hid hor
    have HN := Lib.hid (nids_out hor)
    clear hor hin
    go_enter Tryz.func38, Tryz.ntmps38
    go_wp2_with fail
    refine (l1In_no i 0 _ _ HO.out).mono ?_
    rintro e w' ⟨rfl, x1, rfl⟩
    go_wp2_with fail
    go_ret
    exact ⟨_, [], rfl, by rw [HN.out]; exact ⟨_, 0, rfl, by simp, by simp, .inl ⟨rfl, rfl⟩⟩, Fresh.nil _, (by repeat (first | exact Gr.refl _ | apply Gr.ext | apply Gr.alloc | apply Gr.drew))⟩
end Go.Proofs.YtbfmeiooeaaibaaGreat
