/- Subtrees: the reference's. No condition. -/
import Derived.Test.YtmfcagcanhmdbaaH12
import Derived.Test.YtmfcagcanhmdbaaH18
import Derived.Test.YtmfcagcanhmdbaaH09
import Derived.Test.YtmfcagcanhmdbaaH06
namespace Go.Proofs.Ytmfcagcanhmdbaa
open Go.RowKit
set_option linter.unusedVariables false
set_option linter.unusedSimpArgs false

def SegSz (t : List GNode) (n m : Nat) : Prop := 1 ≤ m ∧ n + m ≤ t.length ∧ (∀ (j : Nat) (x : GNode), n < j → j < n + m → t[j]? = some x → (n : Int) ≤ x.2.1) ∧ (∀ x : GNode, t[n + m]? = some x → x.2.1 < (n : Int))

set_option maxRecDepth 100000 in
set_option maxHeartbeats 8000000 in
theorem subSize_yes {ft : List Nat} {ct : Array Value} (t : GTree) (i : Int) (w : World) (ht : Rd.rd ft w ct.toList t) {n m : Nat} (hi : i = (n : Int)) (hsz : SegSz t n m) (hl : t.length ≤ 1048576) :
  Calls Try.prog 65 #[.agg ct, .int .i64 i] w fun e w' => e = .returned (.int .i64 (m : Int)) ∧ Gr w w' := by
 subst hi
 have HSZ := Lib.hid hsz
 have hnm := hsz.2.1
 have hm1 := hsz.1
 clear hsz
 have HT := Lib.hid ht
 obtain ⟨t0, rfl⟩ : ∃ y, y = t := ⟨t, rfl⟩
 obtain ⟨vt0, ft0, rfl, hfpt, ht0⟩ := rdTree_inv t0 ht
 have FPt := Lib.hid hfpt
 clear hfpt
 obtain ⟨at0, kt0, rfl, ot01, ot02, ot03⟩ := ht0.open
 clear ht
 have htl : t0.length ≤ 1048576 := hl
 have hnm' : n + m ≤ t0.length := hnm
 clear hl hnm
 have iw1 : IntKind.i64.wrap ((t0.length : Int) - 1) = (t0.length : Int) - 1 := IntWalk.i64_in _ (by omega)
 have iw2 : IntKind.i64.wrap ((n : Int) + 1) = (n : Int) + 1 := IntWalk.i64_in _ (by omega)
 go_enter Try.func65, Try.ntmps65
 go_wp2_with fail
 refine (l1In_yes _ _ _ _ (by omega) (by omega)).mono ?_
 rintro e w' ⟨rfl, x1, rfl⟩
 go_wp2_with fail
 generalize hB : ((w.alloc (.cells #[.slice at0 t0.length kt0] 38)).ext x1) = B
 have gB : Gr w B := by rw [← hB]; exact gd
 have cB : B.cell? ⟨w.heap.size, 0, none⟩ = some (.slice at0 t0.length kt0) := by rw [← hB]; exact Gr.keep gd (box_cell (A := w) rfl rfl)
 have HGB := Lib.hid gB
 clear hB gB
 go_loopw [5] (fun s5 wr => ∃ k : Nat, n + 1 ≤ k ∧ k ≤ n + m ∧ Gr B wr ∧ s5 = .int .i64 k) (fun s5 _ => n + m - (intOf s5).toNat)
 case atStart => exact ⟨n + 1, by omega, by omega, Gr.refl _, by go_num⟩
 case round =>
  obtain ⟨k, hk1, hk2, hg3, rfl⟩ := hrel
  rename World => W3
  have HG3 := Lib.hid hg3
  have c3 := hg3.keep cB
  have zc3 := blk c3
  have k0 : (0 : Int) ≤ (k : Int) := by omega
  have iwk : IntKind.i64.wrap ((k : Int) + 1) = (k : Int) + 1 := IntWalk.i64_in _ (by omega)
  have iwm : IntKind.i64.wrap ((k : Int) - (n : Int)) = (k : Int) - (n : Int) := IntWalk.i64_in _ (by omega)
  clear hg3
  by_cases hlt : k < t0.length
  ·have k1 : (k : Int) < (t0.length : Int) := by omega
   obtain ⟨b, off, rfl, hbb⟩ := ot03 k hlt
   obtain ⟨csq, feq, hcq, hrq, -⟩ := ht0.at hlt
   obtain ⟨yq, hyq⟩ : ∃ y, y = t0[k] := ⟨_, rfl⟩
   rw [← hyq] at hrq
   have HYq := Lib.hid hyq
   have HRq := Lib.hid hrq
   obtain ⟨q0, q1, q2, q3, q4, q5⟩ := yq
   obtain ⟨vq5, fq5, hcsq, -, hq0, hq1, hq2, hq3, hq4, hq5⟩ := rdNode_inv (cs := csq.toArray) q0 q1 q2 q3 q4 q5 (by simpa using hrq)
   obtain rfl : csq = [.int .i64 q0, .int .i64 q1, .int .i64 q2, .int .i64 q3, .string q4, vq5] := by have := congrArg Array.toList hcsq; simpa using this
   obtain ⟨aq5, kq5, rfl, oq51, oq52, oq53⟩ := hq5.open
   have qz0 := (HGB.out.trans HG3.out).keep (show w.cell? ⟨b, off + k * 6, none⟩ = some (.int .i64 q0) from by simpa [Rd.n] using hcq 0 _ rfl)
   have qz1 := (HGB.out.trans HG3.out).keep (show w.cell? ⟨b, off + k * 6 + 1, none⟩ = some (.int .i64 q1) from hcq 1 _ rfl)
   have qz2 := (HGB.out.trans HG3.out).keep (show w.cell? ⟨b, off + k * 6 + 2, none⟩ = some (.int .i64 q2) from hcq 2 _ rfl)
   have qz3 := (HGB.out.trans HG3.out).keep (show w.cell? ⟨b, off + k * 6 + 3, none⟩ = some (.int .i64 q3) from hcq 3 _ rfl)
   have qz4 := (HGB.out.trans HG3.out).keep (show w.cell? ⟨b, off + k * 6 + 4, none⟩ = some (.string q4) from hcq 4 _ rfl)
   have qz5 := (HGB.out.trans HG3.out).keep (show w.cell? ⟨b, off + k * 6 + 5, none⟩ = some (.slice aq5 q5.length kq5) from hcq 5 _ rfl)
   have qzb := blk qz0
   clear hcsq hcq hrq hyq
   by_cases hkm : k < n + m
   ·have hq : (n : Int) ≤ q1 := HSZ.out.2.2.1 k (q0, q1, q2, q3, q4, q5) (by omega) hkm (by rw [HYq.out]; exact List.getElem?_eq_getElem hlt)
    go_wp2_with fail
    exact ⟨⟨k + 1, by omega, by omega, HG3.out.trans gd, by go_num⟩, by simp [intOf]; omega⟩
   ·have hkm2 : k = n + m := by omega
    subst hkm2
    have hq : ¬ (n : Int) ≤ q1 := by
     have := HSZ.out.2.2.2 (q0, q1, q2, q3, q4, q5) (by rw [HYq.out]; exact List.getElem?_eq_getElem hlt)
     simp only at this
     omega
    go_wp2_with fail
    go_ret
    exact ⟨ret_int (by omega), HGB.out.trans (HG3.out.trans gd)⟩
  ·have hkm2 : k = n + m := by omega
   subst hkm2
   have k1 : ¬ ((n + m : Nat) : Int) < (t0.length : Int) := by omega
   go_wp2_with fail
   go_ret
   exact ⟨ret_int (by omega), HGB.out.trans (HG3.out.trans gd)⟩

def MadeN (w : World) (x : GNode) (e : Ending) (w' : World) : Prop := ∃ cs fq, e = .returned (.agg cs) ∧ Rd.rd (α := GNode) fq w' cs.toList x ∧ Fresh w fq ∧ Gr w w'

set_option maxRecDepth 100000 in
set_option maxHeartbeats 8000000 in
theorem l15Moved_any {fx : List Nat} {cx : Array Value} (x : GNode) (b : Int) (w : World) (hx : Rd.rd fx w cx.toList x) (hx2 : NodeFine 1000 x) (hb : -1000 ≤ b ∧ b ≤ 1000) :
  Calls Try.prog 66 #[.agg cx, .int .i64 b] w (MadeN w (shN b x)) := by
 obtain ⟨i0, hi, hz0, hz1, hz2⟩ := info_parts Try.infoIntC
 have HZ := Lib.hid (And.intro hi (And.intro hz0 (And.intro hz1 hz2)))
 clear hi hz0 hz1 hz2
 have HF := Lib.hid hx2
 clear hx2
 have HX := Lib.hid hx
 obtain ⟨x0, x1, x2, x3, x4, x5⟩ := x
 obtain ⟨vx5, fx5, rfl, hfpx, hx0, hx1, hx2, hx3, hx4, hx5⟩ := rdNode_inv x0 x1 x2 x3 x4 x5 hx
 have FPx := Lib.hid hfpx
 clear hfpx
 obtain ⟨ax5, kx5, rfl, ox51, ox52, ox53⟩ := hx5.open
 clear hx
 have hp0 : -1 ≤ x1 := HF.out.1
 have hp1 : x1 ≤ 1000 := HF.out.2.1
 have hl5 : x5.length ≤ 3 := HF.out.2.2.2.1
 have HWF := Lib.hid (And.intro hx0 (And.intro hx2 (And.intro hx3 hx4)))
 have HX5 := Lib.hid hx5
 clear hx0 hx1 hx2 hx3 hx4
 have iwp : IntKind.i64.wrap (x1 + b) = x1 + b := IntWalk.i64_in _ (by omega)
 go_enter Try.func66, Try.ntmps66
 go_wp2_with fail
 generalize hB : ((w.alloc (.cells #[.int .i64 x0, .int .i64 x1, .int .i64 x2, .int .i64 x3, .string x4, .slice ax5 x5.length kx5] 86)).alloc (.cells #[.int .i64 0, .int .i64 0, .int .i64 0, .int .i64 0, .string ⟨#[]⟩, .slice none 0 0] 86)) = B
 have gB : Gr w B := by rw [← hB]; exact gd
 have vX : VRow B w.heap.size 86 [.int .i64 x0, .int .i64 x1, .int .i64 x2, .int .i64 x3, .string x4, .slice ax5 x5.length kx5] := by rw [← hB]; exact (VRow.new (A := w) rfl).gr gd
 have vR : VRow B (w.heap.size + 1) 86 [.int .i64 0, .int .i64 0, .int .i64 0, .int .i64 0, .string ⟨#[]⟩, .slice none 0 0] := by rw [← hB]; exact VRow.new (by simp)
 have sB : B.heap.size = w.heap.size + 2 := by rw [← hB]; simp
 have HGB := Lib.hid gB
 have HVX := Lib.hid vX
 have HVR := Lib.hid vR
 have HSB := Lib.hid sB
 clear hB gB vX vR sB
 go_loopw [6, 5] (fun s6 s5 wr => ∃ (j : Nat) (fps : List (List Nat)), j ≤ x5.length ∧ Hid (fps.flatten = []) ∧ Hid (Gr B wr) ∧ Hid (OwnR (α := Int) B 3 wr s5 fps ((x5.take j).map (· + b))) ∧ s6 = .int .i64 j) (fun s6 _ _ => x5.length - (intOf s6).toNat)
 case atStart => exact ⟨0, [], by omega, Lib.hid rfl, Lib.hid gd, Lib.hid (by simpa using OwnR.lit0 (α := Int) (w0 := B) (w := B) 3 (Nat.le_refl _) (by have := HSB.out; omega)), rfl⟩
 case round =>
  obtain ⟨j, fps, hj, HFJ, HG8, HO, rfl⟩ := hrel
  rename World => W8
  obtain ⟨L, hL⟩ : ∃ L, L = (x5.take j).map (· + b) := ⟨_, rfl⟩
  rw [← hL] at HO
  have hLl : L.length = j := by rw [hL, List.length_map, List.length_take]; omega
  have HL := Lib.hid hL
  have HLL := Lib.hid hLl
  obtain ⟨ra, rc, hform⟩ := HO.out.form
  subst hform
  have v8 := HVX.out.gr HG8.out
  have b5 := v8.cell (k := 5) (by simp)
  have zb5 := blk b5
  have hs8 := HG8.out.size
  clear hL hLl
  by_cases hlj : j < x5.length
  ·obtain ⟨c, hc⟩ : ∃ c, c = x5[j] := ⟨_, rfl⟩
   have hcb := HF.out.2.2.2.2 c (by rw [hc]; exact List.getElem_mem hlj)
   have c1 := hcb.1
   have c2 := hcb.2
   have iw3 : IntKind.i64.wrap (c + b) = c + b := IntWalk.i64_in _ (by omega)
   have HWC := Lib.hid (show (Lit.int .i64 (c + b)).wf = true from wf_of (by omega) (by omega))
   obtain ⟨b8, o8, rfl, hb8⟩ := ox53 j hlj
   have cc := (HGB.out.trans HG8.out).keep (HX5.out.int_at hlj).1
   rw [← hc] at cc
   have zcc := blk cc
   have HC := Lib.hid hc
   have j0 : (0 : Int) ≤ (j : Int) := by omega
   have j1 : (j : Int) < (x5.length : Int) := by omega
   clear hc hcb v8
   go_wp2_with (first | (at_builtin; refine wpList_append_R (α := Int) (w0 := B) (HG8.out.trans gd) rfl _ _ 59 rfl 3 i0 (.int .i64 0) 8 Try.underlying59 HZ.out.1 HZ.out.2.1 HZ.out.2.2.1 HZ.out.2.2.2 rfl _ fps _ (by rfl) (HO.out.gr gd) _ [[]] [c + b] (by rfl) (SrcR.one (by simp) (intRd HWC.out _)) (fun b _ => by simp) (by rw [HLL.out]; unfold maxLen; simp; omega) (by rw [HLL.out]; simp; omega) ?_; intro v3 w3 h1 h2 h3 h4; replace h1 := Lib.hid h1; replace h4 := Lib.hid h4; clear h2 h3))
   refine ⟨⟨j + 1, fps ++ [[]], by omega, Lib.hid (by rw [List.flatten_append, HFJ.out]; rfl), h4, Lib.hid ?_, by go_num⟩, by simp [intOf]; omega⟩
   rw [List.take_succ_eq_append_getElem hlj, List.map_append, ← HL.out, ← HC.out]
   exact h1.out
  ·have hj2 : j = x5.length := by omega
   subst hj2
   have f5 := v8.frozen 5
   have hL2 : L = x5.map (· + b) := by rw [HL.out, List.take_length]
   have HL2 := Lib.hid hL2
   have hX2 : Wr [w.heap.size] W8 (W8.setCell ⟨w.heap.size, 5, none⟩ (.slice ra L.length rc)) := (Wr.refl _ _).setCell (by simp) _
   have HX2 := Lib.hid hX2
   have HV9 := Lib.hid (v8.set 5 (.slice ra L.length rc))
   have HO9 := Lib.hid (HO.out.wr hX2 (by rw [HFJ.out]; simp) (fun c hc hm => by have := (HO.out.base c hc).1; have := HSB.out; simp at hm; omega))
   have HR9 := Lib.hid ((HVR.out.gr HG8.out).wr hX2 (by simp))
   clear hL2 hX2 v8
   go_upto_region 7 with fail
   generalize hW9 : W8.setCell ⟨w.heap.size, 5, none⟩ (.slice ra L.length rc) = W9 at HX2 HV9 HO9 HR9 ⊢
   have g9 : Gr w W9 := Gr.wr (HGB.out.trans HG8.out) HX2.out (fun c hc => by simp at hc; omega)
   have HG9 := Lib.hid g9
   clear hW9 g9
   have a1 := HV9.out.cell (k := 1) (by simp)
   have fa1 := HV9.out.frozen 1
   have za1 := blk a1
   clear f5 b5 zb5
   go_upto_region 8 with fail
   have wU : Wr [w.heap.size] W9 (W9.setCell ⟨w.heap.size, 1, none⟩ (.int .i64 (x1 + b))) := (Wr.refl _ _).setCell (by simp) _
   have vU := HV9.out.set 1 (.int .i64 (x1 + b))
   generalize W9.setCell ⟨w.heap.size, 1, none⟩ (.int .i64 (x1 + b)) = WA at wU vU ⊢
   have HVA := Lib.hid (show VRow WA w.heap.size 86 [.int .i64 x0, .int .i64 (x1 + b), .int .i64 x2, .int .i64 x3, .string x4, .slice ra L.length rc] from vU)
   have HRA := Lib.hid (HR9.out.wr wU (by simp))
   have HOA := Lib.hid (HO9.out.wr wU (by rw [HFJ.out]; simp) (fun c hc hm => by have := (HO.out.base c hc).1; have := HSB.out; simp at hm; omega))
   have HGA := Lib.hid (HG9.out.wr wU (fun c hc => by simp at hc; omega))
   clear wU vU a1 fa1 za1
   have a0 := HVA.out.cell (k := 0) (by simp)
   have a1 := HVA.out.cell (k := 1) (by simp)
   have a2 := HVA.out.cell (k := 2) (by simp)
   have a3 := HVA.out.cell (k := 3) (by simp)
   have a4 := HVA.out.cell (k := 4) (by simp)
   have a5 := HVA.out.cell (k := 5) (by simp)
   have za0 := blk a0
   have r0 := HRA.out.cell (k := 0) (by simp)
   have r1 := HRA.out.cell (k := 1) (by simp)
   have r2 := HRA.out.cell (k := 2) (by simp)
   have r3 := HRA.out.cell (k := 3) (by simp)
   have r4 := HRA.out.cell (k := 4) (by simp)
   have r5 := HRA.out.cell (k := 5) (by simp)
   have fr0 := HRA.out.frozen 0
   have fr1 := HRA.out.frozen 1
   have fr2 := HRA.out.frozen 2
   have fr3 := HRA.out.frozen 3
   have fr4 := HRA.out.frozen 4
   have fr5 := HRA.out.frozen 5
   have zr0 := blk r0
   go_wp2_with fail
   have wF := Wr.put6 WA (w.heap.size + 1) (.int .i64 x0) (.int .i64 (x1 + b)) (.int .i64 x2) (.int .i64 x3) (.string x4) (.slice ra L.length rc)
   have vF := VRow.put6 HRA.out (.int .i64 x0) (.int .i64 (x1 + b)) (.int .i64 x2) (.int .i64 x3) (.string x4) (.slice ra L.length rc)
   generalize ((((((WA.setCell ⟨w.heap.size + 1, 0, none⟩ (.int .i64 x0)).setCell ⟨w.heap.size + 1, 1, none⟩ (.int .i64 (x1 + b))).setCell ⟨w.heap.size + 1, 2, none⟩ (.int .i64 x2)).setCell ⟨w.heap.size + 1, 3, none⟩ (.int .i64 x3)).setCell ⟨w.heap.size + 1, 4, none⟩ (.string x4)).setCell ⟨w.heap.size + 1, 5, none⟩ (.slice ra L.length rc)) = WF at wF vF ⊢
   have hRF := vF
   have s0 := hRF.cell (k := 0) (by simp)
   have s1 := hRF.cell (k := 1) (by simp)
   have s2 := hRF.cell (k := 2) (by simp)
   have s3 := hRF.cell (k := 3) (by simp)
   have s4 := hRF.cell (k := 4) (by simp)
   have s5 := hRF.cell (k := 5) (by simp)
   have hsb := HSB.out
   have hgF := HGA.out.wr wF (fun c hc => by simp at hc; omega)
   have hOF := HOA.out.wr wF (by rw [HFJ.out]; simp) (fun c hc hm => by have := (HOA.out.base c hc).1; simp at hm; omega)
   have hpw : (Lit.int .i64 (x1 + b)).wf = true := wf_of (by omega) (by omega)
   obtain ⟨fL, hsL, hfL⟩ := hOF.fresh (by rw [HL2.out, List.length_map]; unfold reachLen; omega) (by rw [HFJ.out]; exact Fresh.nil _)
   have hrd := rdNode_mk x0 (x1 + b) x2 x3 x4 L HWF.out.1 hpw HWF.out.2.1 HWF.out.2.2.1 HWF.out.2.2.2 hsL
   exact bodyPost_ret (v := .agg #[.int .i64 x0, .int .i64 (x1 + b), .int .i64 x2, .int .i64 x3, .string x4, .slice ra L.length rc]) (by simp [results, Try.results66, go_sem, s0, s1, s2, s3, s4, s5]) rfl ⟨_, _, rfl, by rw [show shN b (x0, x1, x2, x3, x4, x5) = (x0, x1 + b, x2, x3, x4, L) by rw [HL2.out]; rfl]; exact hrd, by simpa using hfL.of_le (by omega), hgF⟩

def movN (n k : Nat) (x : GNode) : GNode := if k = 0 then ((shN (-(n : Int)) x).1, -1, 0, (shN (-(n : Int)) x).2.2.2) else shN (-(n : Int)) x
def subN (t : List GNode) (n m : Nat) : List GNode := ((t.drop n).take m).mapIdx (movN n)
theorem subN_len {t : List GNode} {n m : Nat} (h : n + m ≤ t.length) : (subN t n m).length = m := by
 unfold subN
 rw [List.length_mapIdx, List.length_take, List.length_drop]
 omega
theorem subN_at {t : List GNode} {n m k : Nat} {x : GNode} (hk : k < m) (hx : t[n + k]? = some x) : (subN t n m)[k]? = some (movN n k x) := by
 unfold subN
 rw [List.getElem?_mapIdx, List.getElem?_take_of_lt hk, List.getElem?_drop, hx]
 rfl
def MadeTree (w : World) (x : GTree) (e : Ending) (w' : World) : Prop := ∃ cs fq, e = .returned (.agg cs) ∧ Rd.rd (α := GTree) fq w' cs.toList x ∧ Gr w w'

set_option maxRecDepth 100000 in
set_option maxHeartbeats 16000000 in
theorem subtree_yes {ft : List Nat} {ct : Array Value} (t : GTree) (i : Int) (w : World) (ht : Rd.rd ft w ct.toList t) {n m : Nat} (hi : i = (n : Int)) (hsz : SegSz t n m) (hl : t.length ≤ 1000) (hf : ∀ (j : Nat) (x : GNode), n ≤ j → t[j]? = some x → NodeFine 1000 x) :
  Calls Try.prog 27 #[.agg ct, .int .i64 i] w (MadeTree w (subN t n m)) := by
 obtain ⟨i0, hi0, hz0, hz1, hz2⟩ := info_parts Try.infoNode
 have HZ := Lib.hid (And.intro hi0 (And.intro hz0 (And.intro hz1 hz2)))
 clear hi0 hz0 hz1 hz2
 subst hi
 have HSZ := Lib.hid hsz
 have hnm := hsz.2.1
 have hm1 := hsz.1
 have HNF := Lib.hid hf
 clear hsz hf
 have HT := Lib.hid ht
 obtain ⟨t0, rfl⟩ : ∃ y, y = t := ⟨t, rfl⟩
 obtain ⟨vt0, ft0, rfl, hfpt, ht0⟩ := rdTree_inv t0 ht
 have FPt := Lib.hid hfpt
 clear hfpt
 obtain ⟨at0, kt0, rfl, ot01, ot02, ot03⟩ := ht0.open
 clear ht
 have htl : t0.length ≤ 1000 := hl
 have hnm' : n + m ≤ t0.length := hnm
 clear hl hnm
 go_enter Try.func27, Try.ntmps27
 go_upto_region 2 with fail
 generalize hB : (((w.alloc (.cells #[.slice at0 t0.length kt0] 38)).alloc (.cells #[.slice none 0 0] 38)).alloc (.cells #[.slice none 0 0] 38)) = B
 have gB : Gr w B := by rw [← hB]; exact gd
 have cB : B.cell? ⟨w.heap.size, 0, none⟩ = some (.slice at0 t0.length kt0) := by rw [← hB]; exact Gr.keep gd (box_cell (A := w) rfl rfl)
 have vR : VRow B (w.heap.size + 1) 38 [.slice none 0 0] := by rw [← hB]; exact (VRow.new (A := w.alloc (.cells #[.slice at0 t0.length kt0] 38)) (by simp)).gr gd
 have vO : VRow B (w.heap.size + 1 + 1) 38 [.slice none 0 0] := by rw [← hB]; exact VRow.new (by simp)
 have sB : B.heap.size = w.heap.size + 3 := by rw [← hB]; simp
 have HGB := Lib.hid gB
 have HVR := Lib.hid vR
 have HVO := Lib.hid vO
 have HSB := Lib.hid sB
 have zcB := blk cB
 clear hB gB vR vO sB
 go_wp2_with fail
 refine (subSize_yes (ct := #[.slice at0 t0.length kt0]) t0 (n : Int) B (Rd.gr HT.out HGB.out) rfl HSZ.out (by omega)).mono ?_
 rintro e w' ⟨rfl, x1, rfl⟩
 go_wp2_with fail
 generalize hC : B.ext x1 = C
 have gBC : Gr B C := by rw [← hC]; exact gd
 have HGC := Lib.hid (HGB.out.trans gBC)
 have cC := gBC.keep cB
 have HVRC := Lib.hid (HVR.out.gr gBC)
 have HVOC := Lib.hid (HVO.out.gr gBC)
 have hsC : w.heap.size + 3 ≤ C.heap.size := by have := gBC.size; have := HSB.out; omega
 clear hC gBC cB zcB
 go_loopw [7] (fun s7 wr => ∃ (k : Nat) (v : Value) (fps : List (List Nat)), k ≤ m ∧ Hid (Gr w wr) ∧ C.heap.size ≤ wr.heap.size ∧ Hid (OwnR (α := GNode) C 86 wr v fps ((subN t0 n m).take k)) ∧ Hid (∀ c ∈ fps.flatten, C.heap.size ≤ c) ∧ Hid (VRow wr (w.heap.size + 1) 38 [.slice none 0 0]) ∧ Hid (VRow wr (w.heap.size + 1 + 1) 38 [v]) ∧ Hid (wr.cell? ⟨w.heap.size, 0, none⟩ = some (.slice at0 t0.length kt0)) ∧ s7 = .int .i64 k) (fun s7 _ => m - (intOf s7).toNat)
 case atStart => exact ⟨0, _, [], by omega, HGC, Nat.le_refl _, Lib.hid (by simpa using OwnR.nil (α := GNode) C C 86), Lib.hid (by simp), HVRC, HVOC, Lib.hid cC, rfl⟩
 case round =>
  obtain ⟨k, v, fps, hk, HG3, hs3, HO3, HF3, HR3, HB3, HC3, rfl⟩ := hrel
  rename World => W3
  obtain ⟨T, hT⟩ : ∃ T, T = (subN t0 n m).take k := ⟨_, rfl⟩
  rw [← hT] at HO3
  have hTl : T.length = k := by rw [hT, List.length_take, subN_len hnm']; omega
  have HTT := Lib.hid hT
  have HTL := Lib.hid hTl
  obtain ⟨ra, rc, hform⟩ := HO3.out.form
  subst hform
  have c3 := HC3.out
  have zc3 := blk c3
  clear hT hTl
  by_cases hlk : k < m
  ·obtain ⟨N, hN⟩ : ∃ N, N = n + k := ⟨_, rfl⟩
   have k0 : (0 : Int) ≤ (N : Int) := by omega
   have k1 : (N : Int) < (t0.length : Int) := by omega
   have k2 : (k : Int) < (m : Int) := by omega
   have iw1 : IntKind.i64.wrap ((n : Int) + (k : Int)) = (N : Int) := by rw [IntWalk.i64_in _ (by omega)]; omega
   have iw2 : IntKind.i64.wrap (0 - (n : Int)) = -(n : Int) := by rw [IntWalk.i64_in _ (by omega)]; omega
   have iwk : IntKind.i64.wrap ((k : Int) + 1) = (k : Int) + 1 := IntWalk.i64_in _ (by omega)
   have hlt : N < t0.length := by omega
   have HN := Lib.hid hN
   clear hN
   have iw3 : IntKind.i64.wrap (-(n : Int)) = -(n : Int) := IntWalk.i64_in _ (by omega)
   obtain ⟨b, off, rfl, hbb⟩ := ot03 N hlt
   obtain ⟨csq, feq, hcq, hrq, -⟩ := ht0.at hlt
   obtain ⟨yq, hyq⟩ : ∃ y, y = t0[N] := ⟨_, rfl⟩
   rw [← hyq] at hrq
   have HYq := Lib.hid hyq
   have HRq := Lib.hid hrq
   obtain ⟨q0, q1, q2, q3, q4, q5⟩ := yq
   obtain ⟨vq5, fq5, hcsq, -, hq0, hq1, hq2, hq3, hq4, hq5⟩ := rdNode_inv (cs := csq.toArray) q0 q1 q2 q3 q4 q5 (by simpa using hrq)
   obtain rfl : csq = [.int .i64 q0, .int .i64 q1, .int .i64 q2, .int .i64 q3, .string q4, vq5] := by have := congrArg Array.toList hcsq; simpa using this
   obtain ⟨aq5, kq5, rfl, oq51, oq52, oq53⟩ := hq5.open
   have qz0 := HG3.out.keep (show w.cell? ⟨b, off + N * 6, none⟩ = some (.int .i64 q0) from by simpa [Rd.n] using hcq 0 _ rfl)
   have qz1 := HG3.out.keep (show w.cell? ⟨b, off + N * 6 + 1, none⟩ = some (.int .i64 q1) from hcq 1 _ rfl)
   have qz2 := HG3.out.keep (show w.cell? ⟨b, off + N * 6 + 2, none⟩ = some (.int .i64 q2) from hcq 2 _ rfl)
   have qz3 := HG3.out.keep (show w.cell? ⟨b, off + N * 6 + 3, none⟩ = some (.int .i64 q3) from hcq 3 _ rfl)
   have qz4 := HG3.out.keep (show w.cell? ⟨b, off + N * 6 + 4, none⟩ = some (.string q4) from hcq 4 _ rfl)
   have qz5 := HG3.out.keep (show w.cell? ⟨b, off + N * 6 + 5, none⟩ = some (.slice aq5 q5.length kq5) from hcq 5 _ rfl)
   have qzb := blk qz0
   clear hcsq hcq hrq hyq
   have hqf := HNF.out N (q0, q1, q2, q3, q4, q5) (by have := HN.out; omega) (by rw [HYq.out]; exact List.getElem?_eq_getElem hlt)
   have HQF := Lib.hid hqf
   clear hqf
   have hqp := HQF.out.1
   have hqp2 := HQF.out.2.1
   have HQP := Lib.hid (And.intro hqp hqp2)
   simp only at hqp hqp2
   go_wp2_with fail
   refine (l15Moved_any (q0, q1, q2, q3, q4, q5) (-(n : Int)) W3 (Rd.gr (Rd.gr HRq.out (Gr.refl _)) HG3.out) HQF.out (by omega)).mono ?_
   rintro e W4 ⟨cs4, fq4, rfl, hr4, hf4, hg4⟩
   obtain ⟨ks, hks⟩ : ∃ ks, ks = q5.map (· + -(n : Int)) := ⟨_, rfl⟩
   have HKS := Lib.hid hks
   have hr4' : Rd.rd (α := GNode) fq4 W4 cs4.toList (q0, q1 + -(n : Int), q2, q3, q4, ks) := by rw [hks]; exact hr4
   obtain ⟨v45, f45, rfl, hfp4, hw0, hw1, hw2, hw3, hw4, hs45⟩ := rdNode_inv q0 (q1 + -(n : Int)) q2 q3 q4 ks hr4'
   obtain ⟨a5, c5, rfl, -, -, -⟩ := hs45.open
   have HS5 := Lib.hid hs45
   have HQW := Lib.hid (And.intro hw0 (And.intro hw1 (And.intro hw2 (And.intro hw3 hw4))))
   have HFQ := Lib.hid (show ∀ c ∈ f45, C.heap.size ≤ c from fun c hc => by have := hf4.2 c (by rw [hfp4]; simp [hc]); omega)
   have HFL := Lib.hid (show ∀ c ∈ f45, W3.heap.size ≤ c ∧ c < W4.heap.size from fun c hc => ⟨hf4.2 c (by rw [hfp4]; simp [hc]), hs45.lt c hc⟩)
   have hs4 := hg4.size
   clear hr4 hr4' hf4 hfp4 hw0 hw1 hw2 hw3 hw4 hs45 hks
   go_upto_region 7 with fail
   have g45 := (show Gr W4 (W4.alloc (.cells #[.int .i64 q0, .int .i64 (q1 + -(n : Int)), .int .i64 q2, .int .i64 q3, .string q4, .slice a5 ks.length c5] 86)) from gd)
   have v5 := (show VRow (W4.alloc (.cells #[.int .i64 q0, .int .i64 (q1 + -(n : Int)), .int .i64 q2, .int .i64 q3, .string q4, .slice a5 ks.length c5] 86)) W4.heap.size 86 [.int .i64 q0, .int .i64 (q1 + -(n : Int)), .int .i64 q2, .int .i64 q3, .string q4, .slice a5 ks.length c5] from VRow.new rfl)
   have s45 := (show (W4.alloc (.cells #[.int .i64 q0, .int .i64 (q1 + -(n : Int)), .int .i64 q2, .int .i64 q3, .string q4, .slice a5 ks.length c5] 86)).heap.size = W4.heap.size + 1 by simp)
   generalize W4.alloc (.cells #[.int .i64 q0, .int .i64 (q1 + -(n : Int)), .int .i64 q2, .int .i64 q3, .string q4, .slice a5 ks.length c5] 86) = W5 at g45 v5 s45 ⊢
   have g35 := hg4.trans g45
   have HG5 := Lib.hid (HG3.out.trans g35)
   have HO5 := Lib.hid (HO3.out.gr g35)
   have HB5 := Lib.hid (HB3.out.gr g35)
   have HR5 := Lib.hid (HR3.out.gr g35)
   have HC5 := Lib.hid (g35.keep c3)
   have HS55 := Lib.hid (HS5.out.gr g45)
   have HV5 := Lib.hid v5
   have HDJ := Lib.hid (show ∀ b, (Value.slice ra T.length rc).ownBlock = some b → b ∉ [([] ++ ([] ++ ([] ++ ([] ++ ([] ++ f45)))) : List Nat)].flatten from fun b hb hm => by
    have h1 := (HO3.out.base b hb).2
    have h2 := HFL.out b (by simpa using hm)
    omega)
   have htx : t0[n + k]? = some (q0, q1, q2, q3, q4, q5) := by rw [← HN.out, HYq.out]; exact List.getElem?_eq_getElem hlt
   have HTX := Lib.hid htx
   clear g45 v5 g35 hg4 c3 zc3 qz0 qz1 qz2 qz3 qz4 qz5 qzb htx
   by_cases hk0 : k = 0
   ·have hkk : ((k : Int) == 0) = true := by simp [hk0]
    have HMV := Lib.hid (show (subN t0 n m)[k]? = some (q0, -1, 0, q3, q4, ks) by rw [subN_at hlk HTX.out, HKS.out]; unfold movN; rw [if_pos hk0]; rfl)
    have x1 := HV5.out.cell (k := 1) (by simp)
    have x2 := HV5.out.cell (k := 2) (by simp)
    have fx1 := HV5.out.frozen 1
    have fx2 := HV5.out.frozen 2
    have zx1 := blk x1
    clear hk0
    go_upto_region 10 with fail
    have wst : Wr [W4.heap.size] W5 ((W5.setCell ⟨W4.heap.size, 1, none⟩ (.int .i64 (-1))).setCell ⟨W4.heap.size, 2, none⟩ (.int .i64 0)) := ((Wr.refl [W4.heap.size] W5).setCell (List.mem_singleton.2 rfl) _).setCell (List.mem_singleton.2 rfl) _
    have vst := (HV5.out.set 1 (.int .i64 (-1))).set 2 (.int .i64 0)
    generalize (W5.setCell ⟨W4.heap.size, 1, none⟩ (.int .i64 (-1))).setCell ⟨W4.heap.size, 2, none⟩ (.int .i64 0) = W6 at wst vst ⊢
    have hs56 := wst.size
    have HVN := Lib.hid (show VRow W6 W4.heap.size 86 [.int .i64 q0, .int .i64 (-1), .int .i64 0, .int .i64 q3, .string q4, .slice a5 ks.length c5] from vst)
    have HGX := Lib.hid (HG5.out.wr wst (fun c hc => by rw [List.mem_singleton.1 hc]; omega))
    have HOX := Lib.hid (HO5.out.wr wst (fun c hc hm => by have h1 := List.mem_singleton.1 hm; have h2 := HO3.out.lt c hc; omega) (fun c hc hm => by have h1 := List.mem_singleton.1 hm; have h2 := (HO3.out.base c hc).2; omega))
    have HBX := Lib.hid (HB5.out.wr wst (by simp; omega))
    have HRX := Lib.hid (HR5.out.wr wst (by simp; omega))
    have HCX := Lib.hid (wst.keepC HC5.out (by simp; omega))
    have HRD := Lib.hid (rdNode_mk q0 (-1) 0 q3 q4 ks HQW.out.1 (by decide) (by decide) HQW.out.2.2.2.1 HQW.out.2.2.2.2 (HS55.out.wr wst (fun c hc hm => by have h1 := List.mem_singleton.1 hm; have := HFL.out c hc; omega)))
    clear wst vst x1 x2 fx1 fx2 zx1
    have x0 := HVN.out.cell (k := 0) (by simp)
    have x1 := HVN.out.cell (k := 1) (by simp)
    have x2 := HVN.out.cell (k := 2) (by simp)
    have x3 := HVN.out.cell (k := 3) (by simp)
    have x4 := HVN.out.cell (k := 4) (by simp)
    have x5 := HVN.out.cell (k := 5) (by simp)
    have y0 := HBX.out.cell (k := 0) (by simp)
    have fy0 := HBX.out.frozen 0
    have zx0 := blk x0
    have zy0 := blk y0
    have hown0 : ∀ c ∈ (Value.slice ra T.length rc).ownBlock.toList, C.heap.size ≤ c := fun c hc => (HOX.out.base c (by simpa using hc)).1
    have HWN := Lib.hid hown0
    clear hown0
    go_wp2_with (first | (at_builtin; refine wpList_append_RB (α := GNode) (wg := w) (w0 := C) (HGX.out.trans gd) (by omega) (by simp; omega) rfl _ _ 36 rfl 86 i0 (.agg #[.int .i64 0, .int .i64 0, .int .i64 0, .int .i64 0, .string ByteArray.empty, .slice none 0 0]) 72 Try.underlying36 HZ.out.1 HZ.out.2.1 HZ.out.2.2.1 HZ.out.2.2.2 rfl (.slice ra T.length rc) fps _ (by rfl) (HOX.out.gr gd) _ [_] [(q0, (-1), 0, q3, q4, ks)] (by rfl) (SrcR.one (w := W6) (by first | rfl | omega) (Rd.gr HRD.out gd)) HDJ.out (by rw [HTL.out]; unfold maxLen; simp; omega) (by rw [HTL.out]; simp; omega) ?_; intro v3 w3 h1 h2 h3 h4; obtain ⟨va3, vc3, hf3⟩ := h1.form; rw [List.length_append, List.length_singleton] at hf3; subst hf3; have hgr3 := ((gd : Gr W6 (W6.alloc (.cells #[.int .i64 q0, .int .i64 (-1), .int .i64 0, .int .i64 q3, .string q4, .slice a5 ks.length c5] 86))).toWr (Value.slice ra T.length rc).ownBlock.toList).trans h2; have hz3 := hgr3.size; have v63 := HBX.out.wr hgr3 (fun hm => by have := HWN.out _ hm; omega); have d0 := v63.cell (k := 0) (by simp); have fd0 := v63.frozen 0; have zd0 := blk d0; have H1 := Lib.hid h1; have H4 := Lib.hid h4; have HV63 := Lib.hid v63; have HGR3 := Lib.hid hgr3; clear h1 h2 h3 h4 hgr3 v63))
    have wU := Wr.put1 w3 (w.heap.size + 1 + 1) (.slice va3 (T.length + 1) vc3)
    have vU := VRow.put1 HV63.out (.slice va3 (T.length + 1) vc3)
    have HGF := Lib.hid (H4.out.wr wU (fun c hc => by rw [List.mem_singleton.1 hc]; omega))
    have HOF := Lib.hid (H1.out.wr wU (fun c hc hm => by
     have h1 := List.mem_singleton.1 hm
     rw [List.flatten_append] at hc
     rcases List.mem_append.1 hc with hc | hc
     ·have := HF3.out c hc; omega
     ·have := HFQ.out c (by simpa using hc); omega) (fun c hc hm => by have h1 := List.mem_singleton.1 hm; have := (H1.out.base c hc).1; omega))
    have HRF := Lib.hid ((HRX.out.wr HGR3.out (fun hm => by have := HWN.out _ hm; omega)).wr wU (by simp))
    have HBF := Lib.hid vU
    have HCF := Lib.hid (wU.keepC (HGR3.out.keepC HCX.out (fun hm => by have := HWN.out _ hm; omega)) (by simp; omega))
    have hzF := wU.size
    refine ⟨⟨k + 1, _, fps ++ [([] ++ ([] ++ ([] ++ ([] ++ ([] ++ f45)))))], by omega, HGF, by omega, Lib.hid ?_, Lib.hid (fun c hc => ?_), HRF, HBF, HCF, by go_num⟩, by simp [intOf]; omega⟩
    ·rw [List.take_succ_eq_append_getElem (by rw [subN_len hnm']; omega), ← HTT.out]
     have e : (subN t0 n m)[k]'(by rw [subN_len hnm']; omega) = (q0, (-1), 0, q3, q4, ks) := Option.some.inj ((List.getElem?_eq_getElem _).symm.trans HMV.out)
     rw [e]
     exact HOF.out
    ·rw [List.flatten_append] at hc
     rcases List.mem_append.1 hc with hc | hc
     ·exact HF3.out c hc
     ·have := HFQ.out c (by simpa using hc); omega
   ·have hkk : ((k : Int) == 0) = false := by simp [hk0]
    have HMV := Lib.hid (show (subN t0 n m)[k]? = some (q0, q1 + -(n : Int), q2, q3, q4, ks) by rw [subN_at hlk HTX.out, HKS.out]; unfold movN; rw [if_neg hk0]; rfl)
    clear hk0
    go_upto_region 10 with fail
    have HVN := HV5
    have HGX := HG5
    have HOX := HO5
    have HBX := HB5
    have HRX := HR5
    have HCX := HC5
    have HRD := Lib.hid (rdNode_mk q0 (q1 + -(n : Int)) q2 q3 q4 ks HQW.out.1 HQW.out.2.1 HQW.out.2.2.1 HQW.out.2.2.2.1 HQW.out.2.2.2.2 HS55.out)
    have x0 := HVN.out.cell (k := 0) (by simp)
    have x1 := HVN.out.cell (k := 1) (by simp)
    have x2 := HVN.out.cell (k := 2) (by simp)
    have x3 := HVN.out.cell (k := 3) (by simp)
    have x4 := HVN.out.cell (k := 4) (by simp)
    have x5 := HVN.out.cell (k := 5) (by simp)
    have y0 := HBX.out.cell (k := 0) (by simp)
    have fy0 := HBX.out.frozen 0
    have zx0 := blk x0
    have zy0 := blk y0
    have hown0 : ∀ c ∈ (Value.slice ra T.length rc).ownBlock.toList, C.heap.size ≤ c := fun c hc => (HOX.out.base c (by simpa using hc)).1
    have HWN := Lib.hid hown0
    clear hown0
    go_wp2_with (first | (at_builtin; refine wpList_append_RB (α := GNode) (wg := w) (w0 := C) (HGX.out.trans gd) (by omega) (by simp; omega) rfl _ _ 36 rfl 86 i0 (.agg #[.int .i64 0, .int .i64 0, .int .i64 0, .int .i64 0, .string ByteArray.empty, .slice none 0 0]) 72 Try.underlying36 HZ.out.1 HZ.out.2.1 HZ.out.2.2.1 HZ.out.2.2.2 rfl (.slice ra T.length rc) fps _ (by rfl) (HOX.out.gr gd) _ [_] [(q0, (q1 + -(n : Int)), q2, q3, q4, ks)] (by rfl) (SrcR.one (w := W5) (by first | rfl | omega) (Rd.gr HRD.out gd)) HDJ.out (by rw [HTL.out]; unfold maxLen; simp; omega) (by rw [HTL.out]; simp; omega) ?_; intro v3 w3 h1 h2 h3 h4; obtain ⟨va3, vc3, hf3⟩ := h1.form; rw [List.length_append, List.length_singleton] at hf3; subst hf3; have hgr3 := ((gd : Gr W5 (W5.alloc (.cells #[.int .i64 q0, .int .i64 (q1 + -(n : Int)), .int .i64 q2, .int .i64 q3, .string q4, .slice a5 ks.length c5] 86))).toWr (Value.slice ra T.length rc).ownBlock.toList).trans h2; have hz3 := hgr3.size; have v63 := HBX.out.wr hgr3 (fun hm => by have := HWN.out _ hm; omega); have d0 := v63.cell (k := 0) (by simp); have fd0 := v63.frozen 0; have zd0 := blk d0; have H1 := Lib.hid h1; have H4 := Lib.hid h4; have HV63 := Lib.hid v63; have HGR3 := Lib.hid hgr3; clear h1 h2 h3 h4 hgr3 v63))
    have wU := Wr.put1 w3 (w.heap.size + 1 + 1) (.slice va3 (T.length + 1) vc3)
    have vU := VRow.put1 HV63.out (.slice va3 (T.length + 1) vc3)
    have HGF := Lib.hid (H4.out.wr wU (fun c hc => by rw [List.mem_singleton.1 hc]; omega))
    have HOF := Lib.hid (H1.out.wr wU (fun c hc hm => by
     have h1 := List.mem_singleton.1 hm
     rw [List.flatten_append] at hc
     rcases List.mem_append.1 hc with hc | hc
     ·have := HF3.out c hc; omega
     ·have := HFQ.out c (by simpa using hc); omega) (fun c hc hm => by have h1 := List.mem_singleton.1 hm; have := (H1.out.base c hc).1; omega))
    have HRF := Lib.hid ((HRX.out.wr HGR3.out (fun hm => by have := HWN.out _ hm; omega)).wr wU (by simp))
    have HBF := Lib.hid vU
    have HCF := Lib.hid (wU.keepC (HGR3.out.keepC HCX.out (fun hm => by have := HWN.out _ hm; omega)) (by simp; omega))
    have hzF := wU.size
    refine ⟨⟨k + 1, _, fps ++ [([] ++ ([] ++ ([] ++ ([] ++ ([] ++ f45)))))], by omega, HGF, by omega, Lib.hid ?_, Lib.hid (fun c hc => ?_), HRF, HBF, HCF, by go_num⟩, by simp [intOf]; omega⟩
    ·rw [List.take_succ_eq_append_getElem (by rw [subN_len hnm']; omega), ← HTT.out]
     have e : (subN t0 n m)[k]'(by rw [subN_len hnm']; omega) = (q0, (q1 + -(n : Int)), q2, q3, q4, ks) := Option.some.inj ((List.getElem?_eq_getElem _).symm.trans HMV.out)
     rw [e]
     exact HOF.out
    ·rw [List.flatten_append] at hc
     rcases List.mem_append.1 hc with hc | hc
     ·exact HF3.out c hc
     ·have := HFQ.out c (by simpa using hc); omega
  ·have hkm : k = m := by omega
   subst hkm
   have k2 : ¬ (k : Int) < (k : Int) := by omega
   have o0 := HB3.out.cell (k := 0) (by simp)
   have r0 := HR3.out.cell (k := 0) (by simp)
   have fr0 := HR3.out.frozen 0
   have zo0 := blk o0
   have zr0 := blk r0
   go_wp2_with fail
   have wU := Wr.put1 W3 (w.heap.size + 1) (.slice ra T.length rc)
   have vU := VRow.put1 HR3.out (.slice ra T.length rc)
   generalize W3.setCell ⟨w.heap.size + 1, 0, none⟩ (.slice ra T.length rc) = WF at wU vU ⊢
   have r1 := vU.cell (k := 0) (by simp)
   have hOF := HO3.out.wr wU (fun c hc hm => by have h1 := List.mem_singleton.1 hm; have := HF3.out c hc; omega) (fun c hc hm => by have h1 := List.mem_singleton.1 hm; have := (HO3.out.base c hc).1; omega)
   have hTs : T = subN t0 n k := by rw [HTT.out]; exact List.take_of_length_le (by rw [subN_len hnm']; omega)
   obtain ⟨fS, hS, -⟩ := hOF.slR (by rw [HTL.out]; unfold reachLen; omega)
   exact bodyPost_ret (v := .agg #[.slice ra T.length rc]) (by simp [results, Try.results27, go_sem, r1]) rfl ⟨_, fS, rfl, by rw [← hTs]; exact rdTree_mk _ hS, HG3.out.wr wU (fun c hc => by rw [List.mem_singleton.1 hc]; omega)⟩
end Go.Proofs.Ytmfcagcanhmdbaa
