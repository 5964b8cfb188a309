/- Expressions drawn. No condition. -/
import Derived.Test.YtmfcagcanhmdbaaH26
namespace Go.Proofs.Ytmfcagcanhmdbaa
open Go.RowKit
set_option linter.unusedVariables false
set_option linter.unusedSimpArgs false
variable {d : Nat}

theorem pow4 (n : Nat) : 1 ≤ 4 ^ n := by
 induction n with
 | zero => decide
 | succ k ih => rw [Nat.pow_succ]; omega

set_option maxRecDepth 100000 in
set_option maxHeartbeats 16000000 in
theorem l10Expr_any (b : Nat) : ∀ (n dd : Nat) (fg fr : List Nat) (cg cr : Array Value) (g : GGrammar d) (r : GRule d) (kind D : Int) (w : World) (hD : D = (n : Int) + 1) (h : CurR w b) (hg : Rd.rd fg w cg.toList g) (hr : Rd.rd fr w cr.toList r) (hbg : b ∉ fg) (hbr : b ∉ fr) (hl : wtGrammar g ≤ 1048576) (hs : ∀ s ∈ g.1, SymOK s) (hn : r.2.2.1.length ≤ 1000) (hk : 0 ≤ kind ∧ kind ≤ 4) (hnd : n ≤ dd) (hn3 : n ≤ 1000),
  Calls Try.prog 104 #[.pointer (some ⟨b, 0, none⟩), .agg cg, .agg cr, .int .i64 kind, .int .i64 D, .bool false] w (ExprAt dd b (100 * 4 ^ n) w) := by
 intro n
 induction n with
 | zero =>
  intro dd fg fr cg cr g r kind D w hD h hg hr hbg hbr hl hs hn hk hnd hn3
  have hpow : 64 ≤ 100 * 4 ^ 0 := by decide
  have hd2 : D < 2 := by omega
  clear hD
  have HC0 := Lib.hid h
  have HWT := Lib.hid hl
  have HS := Lib.hid hs
  have HPOW := Lib.hid hpow
  have HBG := Lib.hid (And.intro hbg hbr)
  have hbl := h.lt
  have hkw : (Lit.int .i64 kind).wf = true := wf_small hk.1 (by omega)
  have HK := Lib.hid (And.intro hk hkw)
  clear h hl hs hpow hbg hbr hkw
  have HG := Lib.hid hg
  obtain ⟨g0, g1⟩ := g
  obtain ⟨vg0, fg0, vg1, fg1, rfl, hfpg, hg0, hg1⟩ := rdGrammar_inv g0 g1 hg
  have FPg := Lib.hid hfpg
  clear hfpg
  obtain ⟨ag0, kg0, rfl, og01, og02, og03⟩ := hg0.open
  obtain ⟨ag1, kg1, rfl, og11, og12, og13⟩ := hg1.open
  clear hg
  have HR := Lib.hid hr
  obtain ⟨r0, r1, r2, r3, r4, r5⟩ := r
  obtain ⟨vr2, fr2, vr4, fr4, vr5, fr5, rfl, hfpr, hr0, hr1, hr2, hr4, hr5⟩ := rdRule_inv r0 r1 r2 r3 r4 r5 hr
  have FPr := Lib.hid hfpr
  clear hfpr
  obtain ⟨ar2, kr2, rfl, or21, or22, or23⟩ := hr2.open
  obtain ⟨ar4, kr4, rfl, or41, or42, or43⟩ := hr4.open
  obtain ⟨ar5, kr5, rfl, or51, or52, or53⟩ := hr5.open
  clear hr
  have hn' : r2.length ≤ 1000 := hn
  clear hn
  go_enter Try.func104, Try.ntmps104
  go_upto_region 1 with fail
  generalize hW0 : ((w.alloc (.cells #[.slice ag0 g0.length kg0, .slice ag1 g1.length kg1] 114)).alloc (.cells #[.string r0, .string r1, .slice ar2 r2.length kr2, .bool r3, .slice ar4 r4.length kr4, .slice ar5 r5.length kr5] 138)).alloc (.cells #[.int .i64 0, .int .i64 0, .int .i64 0, .int .i64 0, .string ⟨#[]⟩, .string ⟨#[]⟩, .slice none 0 0] 157) = W0
  have hg0 : Gr w W0 := by rw [← hW0]; exact gd
  have HVR := Lib.hid (show VRow W0 (w.heap.size + 1 + 1) 157 [.int .i64 0, .int .i64 0, .int .i64 0, .int .i64 0, .string ⟨#[]⟩, .string ⟨#[]⟩, .slice none 0 0] by rw [← hW0]; exact VRow.new (by simp))
  have HVG := Lib.hid (show VRow W0 w.heap.size 114 [.slice ag0 g0.length kg0, .slice ag1 g1.length kg1] by rw [← hW0]; exact (VRow.new (A := w) rfl).gr gd)
  have HVU := Lib.hid (show VRow W0 (w.heap.size + 1) 138 [.string r0, .string r1, .slice ar2 r2.length kr2, .bool r3, .slice ar4 r4.length kr4, .slice ar5 r5.length kr5] by rw [← hW0]; exact (VRow.new (A := w.alloc (.cells #[.slice ag0 g0.length kg0, .slice ag1 g1.length kg1] 114)) (by simp)).gr gd)
  have HBX := Lib.hid (And.intro (HVG.out.cell (k := 0) (by simp)) (And.intro (HVG.out.cell (k := 1) (by simp)) (And.intro (HVU.out.cell (k := 0) (by simp)) (And.intro (HVU.out.cell (k := 1) (by simp)) (And.intro (HVU.out.cell (k := 2) (by simp)) (And.intro (HVU.out.cell (k := 3) (by simp)) (And.intro (HVU.out.cell (k := 4) (by simp)) (HVU.out.cell (k := 5) (by simp)))))))))
  have HW := Lib.hid (Wr.refl [b] W0)
  have HG0 := Lib.hid hg0
  have HC := Lib.hid (HC0.out.gr hg0)
  have s0 : W0.heap.size = w.heap.size + 3 := by rw [← hW0]; simp
  clear hW0 hg0
  by_cases hk1 : kind = 1
  ·have k1 : (kind == 1) = true := by simp [hk1]
   clear hk1
   cases r3 with
   | true =>
    have y0 := HW.out.keepC HBX.out.1 (by simp; omega)
    have y1 := HW.out.keepC HBX.out.2.1 (by simp; omega)
    have y2 := HW.out.keepC HBX.out.2.2.1 (by simp; omega)
    have y3 := HW.out.keepC HBX.out.2.2.2.1 (by simp; omega)
    have y4 := HW.out.keepC HBX.out.2.2.2.2.1 (by simp; omega)
    have y5 := HW.out.keepC HBX.out.2.2.2.2.2.1 (by simp; omega)
    have y6 := HW.out.keepC HBX.out.2.2.2.2.2.2.1 (by simp; omega)
    have y7 := HW.out.keepC HBX.out.2.2.2.2.2.2.2 (by simp; omega)
    have zy0 := blk y0
    have zy2 := blk y2
    go_wp2_with fail
    refine (l1Once_any b 3 _ HC.out (by omega) (by omega)).mono ?_
    rintro e W5 ⟨x5, rfl, hc5, hw5⟩
    clear y0 y1 y2 y3 y4 y5 y6 y7 zy0 zy2
    have HW := Lib.hid (HW.out.trans hw5)
    have HVR := Lib.hid (HVR.out.wr hw5 (by simp; omega))
    have HC := Lib.hid hc5
    clear hc5 hw5
    cases x5 with
    | true =>
     have HRE := Lib.hid (leaf_rd dd W5 2 0 0 0 ⟨#[]⟩ ⟨#[]⟩ (by decide) (by decide) (by decide) (by decide) (by decide) (by decide))
     have HFE := Lib.hid (show ∀ c ∈ ([] : List Nat), w.heap.size + 2 < c by simp)
     have e0 := HVR.out.cell (k := 0) (by simp)
     have e1 := HVR.out.cell (k := 1) (by simp)
     have e2 := HVR.out.cell (k := 2) (by simp)
     have e3 := HVR.out.cell (k := 3) (by simp)
     have e4 := HVR.out.cell (k := 4) (by simp)
     have e5 := HVR.out.cell (k := 5) (by simp)
     have e6 := HVR.out.cell (k := 6) (by simp)
     have f0 := HVR.out.frozen 0
     have f1 := HVR.out.frozen 1
     have f2 := HVR.out.frozen 2
     have f3 := HVR.out.frozen 3
     have f4 := HVR.out.frozen 4
     have f5 := HVR.out.frozen 5
     have f6 := HVR.out.frozen 6
     have ze := blk e0
     go_wp2_with fail
     clear e0 e1 e2 e3 e4 e5 e6 f0 f1 f2 f3 f4 f5 f6 ze
     generalize hF : (((((((W5.setCell ⟨w.heap.size + 1 + 1, 0, none⟩ (.int .i64 2)).setCell ⟨w.heap.size + 1 + 1, 1, none⟩ (.int .i64 0)).setCell ⟨w.heap.size + 1 + 1, 2, none⟩ (.int .i64 0)).setCell ⟨w.heap.size + 1 + 1, 3, none⟩ (.int .i64 0)).setCell ⟨w.heap.size + 1 + 1, 4, none⟩ (.string ⟨#[]⟩)).setCell ⟨w.heap.size + 1 + 1, 5, none⟩ (.string ⟨#[]⟩)).setCell ⟨w.heap.size + 1 + 1, 6, none⟩ (.slice none 0 0)) = WF
     have vF : VRow WF (w.heap.size + 1 + 1) 157 [.int .i64 2, .int .i64 0, .int .i64 0, .int .i64 0, .string ⟨#[]⟩, .string ⟨#[]⟩, .slice none 0 0] := by rw [← hF]; exact (VRow.put7 HVR.out _ _ _ _ _ _ _).gr (Gr.refl _)
     have wF : Wr [b] w WF := by rw [← hF]; exact ((HG0.out.toWr [b]).trans HW.out |>.more2 (Wr.put7 _ _ _ _ _ _ _ _ _) (fun x hx => .inr (by rw [List.mem_singleton.1 hx]; omega))).gr (Gr.refl _)
     have cF : CurR WF b := by rw [← hF]; exact (HC.out.wr (Wr.put7 _ _ _ _ _ _ _ _ _) (fun x hx => by rw [List.mem_singleton.1 hx]; omega)).gr (Gr.refl _)
     have hrF : Rd.rd [] WF (#[.int .i64 2, .int .i64 0, .int .i64 0, .int .i64 0, .string ⟨#[]⟩, .string ⟨#[]⟩, .slice none 0 0] : Array Value).toList ((2, 0, 0, 0, ⟨#[]⟩, ⟨#[]⟩, []) : GExpr dd) := by rw [← hF]; exact Rd.gr (Rd.wr HRE.out (Wr.put7 _ _ _ _ _ _ _ _ _) (fun c hc hm => by have := HFE.out c hc; rw [List.mem_singleton.1 hm] at this; omega)) (Gr.refl _)
     have r0' := vF.cell (k := 0) (by simp)
     have r1' := vF.cell (k := 1) (by simp)
     have r2' := vF.cell (k := 2) (by simp)
     have r3' := vF.cell (k := 3) (by simp)
     have r4' := vF.cell (k := 4) (by simp)
     have r5' := vF.cell (k := 5) (by simp)
     have r6' := vF.cell (k := 6) (by simp)
     clear hF vF
     exact bodyPost_ret (v := .agg #[.int .i64 2, .int .i64 0, .int .i64 0, .int .i64 0, .string ⟨#[]⟩, .string ⟨#[]⟩, .slice none 0 0]) (by simp [results, Try.results104, go_sem, r0', r1', r2', r3', r4', r5', r6']) rfl ⟨_, [], ((2, 0, 0, 0, ⟨#[]⟩, ⟨#[]⟩, []) : GExpr dd), rfl, hrF, by show 0 + 0 + wtL _ [] ≤ _; simp [wtL], fun c hc => Nat.le_of_lt (Nat.lt_of_le_of_lt (Nat.le_add_right _ 2) (HFE.out c hc)), cF, wF⟩
    | false =>
     have y0 := HW.out.keepC HBX.out.1 (by simp; omega)
     have y1 := HW.out.keepC HBX.out.2.1 (by simp; omega)
     have y2 := HW.out.keepC HBX.out.2.2.1 (by simp; omega)
     have y3 := HW.out.keepC HBX.out.2.2.2.1 (by simp; omega)
     have y4 := HW.out.keepC HBX.out.2.2.2.2.1 (by simp; omega)
     have y5 := HW.out.keepC HBX.out.2.2.2.2.2.1 (by simp; omega)
     have y6 := HW.out.keepC HBX.out.2.2.2.2.2.2.1 (by simp; omega)
     have y7 := HW.out.keepC HBX.out.2.2.2.2.2.2.2 (by simp; omega)
     have zy0 := blk y0
     have zy2 := blk y2
     have sW := HW.out.size
     have hrg : Rd.rd fg _ (#[.slice ag0 g0.length kg0, .slice ag1 g1.length kg1] : Array Value).toList (g0, g1) := Rd.wr (Rd.gr HG.out HG0.out) HW.out (fun c hc hm => HBG.out.1 (by rw [← List.mem_singleton.1 hm]; exact hc))
     have hrr : Rd.rd fr _ (#[.string r0, .string r1, .slice ar2 r2.length kr2, .bool true, .slice ar4 r4.length kr4, .slice ar5 r5.length kr5] : Array Value).toList (r0, r1, r2, true, r4, r5) := Rd.wr (Rd.gr HR.out HG0.out) HW.out (fun c hc hm => HBG.out.2 (by rw [← List.mem_singleton.1 hm]; exact hc))
     have HRG := Lib.hid hrg
     have HRR := Lib.hid hrr
     clear hrg hrr
     go_wp2_with fail
     refine (l10Of_any (g0, g1) (r0, r1, r2, true, r4, r5) kind _ HRG.out HRR.out HWT.out HS.out hn').mono ?_
     rintro e w' ⟨v, fo, os, rfl, hso, hlo, hno, hfo, x6, rfl⟩
     obtain ⟨ao, ko, rfl, -, -, -⟩ := hso.open
     have HSO := Lib.hid hso
     have HNO := Lib.hid hno
     have hbo : b ∉ fo := fun hm => by have := hfo b hm; omega
     have HW := Lib.hid (HW.out.gr (Gr.ext (Gr.refl _) x6))
     have HVR := Lib.hid (HVR.out.gr (Gr.ext (Gr.refl _) x6))
     have HC := Lib.hid (HC.out.gr (Gr.ext (Gr.refl _) x6))
     clear hso hno hfo
     clear y0 y1 y2 y3 y4 y5 y6 y7 zy0 zy2
     go_wp2_with fail
     refine (l4Leaf_any dd b kind fo _ os _ HC.out HSO.out hbo (by omega) HNO.out HK.out.2).mono ?_
     rintro e W6 ⟨es, fe, xe, rfl, hre, hwe, hfe, hc5, hw5⟩
     obtain ⟨u0, u1, u2, u3, u4, u5, ua, ul, uc, rfl⟩ := rdExpr_shape hre
     have HW := Lib.hid (HW.out.trans hw5)
     have HVR := Lib.hid (HVR.out.wr hw5 (by simp; omega))
     have HC := Lib.hid hc5
     clear hc5 hw5
     have HRE := Lib.hid hre
     have hsz6 := HVR.out.lt
     have HFE := Lib.hid (show ∀ c ∈ fe, w.heap.size + 2 < c from fun c hc => by have := hfe c hc; simp at this; omega)
     have HWE := Lib.hid hwe
     clear hre hfe hwe
     have e0 := HVR.out.cell (k := 0) (by simp)
     have e1 := HVR.out.cell (k := 1) (by simp)
     have e2 := HVR.out.cell (k := 2) (by simp)
     have e3 := HVR.out.cell (k := 3) (by simp)
     have e4 := HVR.out.cell (k := 4) (by simp)
     have e5 := HVR.out.cell (k := 5) (by simp)
     have e6 := HVR.out.cell (k := 6) (by simp)
     have f0 := HVR.out.frozen 0
     have f1 := HVR.out.frozen 1
     have f2 := HVR.out.frozen 2
     have f3 := HVR.out.frozen 3
     have f4 := HVR.out.frozen 4
     have f5 := HVR.out.frozen 5
     have f6 := HVR.out.frozen 6
     have ze := blk e0
     go_wp2_with fail
     clear e0 e1 e2 e3 e4 e5 e6 f0 f1 f2 f3 f4 f5 f6 ze
     generalize hF : (((((((W6.setCell ⟨w.heap.size + 1 + 1, 0, none⟩ (.int .i64 u0)).setCell ⟨w.heap.size + 1 + 1, 1, none⟩ (.int .i64 u1)).setCell ⟨w.heap.size + 1 + 1, 2, none⟩ (.int .i64 u2)).setCell ⟨w.heap.size + 1 + 1, 3, none⟩ (.int .i64 u3)).setCell ⟨w.heap.size + 1 + 1, 4, none⟩ (.string u4)).setCell ⟨w.heap.size + 1 + 1, 5, none⟩ (.string u5)).setCell ⟨w.heap.size + 1 + 1, 6, none⟩ (.slice ua ul uc)) = WF
     have vF : VRow WF (w.heap.size + 1 + 1) 157 [.int .i64 u0, .int .i64 u1, .int .i64 u2, .int .i64 u3, .string u4, .string u5, .slice ua ul uc] := by rw [← hF]; exact (VRow.put7 HVR.out _ _ _ _ _ _ _).gr (Gr.refl _)
     have wF : Wr [b] w WF := by rw [← hF]; exact ((HG0.out.toWr [b]).trans HW.out |>.more2 (Wr.put7 _ _ _ _ _ _ _ _ _) (fun x hx => .inr (by rw [List.mem_singleton.1 hx]; omega))).gr (Gr.refl _)
     have cF : CurR WF b := by rw [← hF]; exact (HC.out.wr (Wr.put7 _ _ _ _ _ _ _ _ _) (fun x hx => by rw [List.mem_singleton.1 hx]; omega)).gr (Gr.refl _)
     have hrF : Rd.rd fe WF (#[.int .i64 u0, .int .i64 u1, .int .i64 u2, .int .i64 u3, .string u4, .string u5, .slice ua ul uc] : Array Value).toList xe := by rw [← hF]; exact Rd.gr (Rd.wr HRE.out (Wr.put7 _ _ _ _ _ _ _ _ _) (fun c hc hm => by have := HFE.out c hc; rw [List.mem_singleton.1 hm] at this; omega)) (Gr.refl _)
     have r0' := vF.cell (k := 0) (by simp)
     have r1' := vF.cell (k := 1) (by simp)
     have r2' := vF.cell (k := 2) (by simp)
     have r3' := vF.cell (k := 3) (by simp)
     have r4' := vF.cell (k := 4) (by simp)
     have r5' := vF.cell (k := 5) (by simp)
     have r6' := vF.cell (k := 6) (by simp)
     clear hF vF
     exact bodyPost_ret (v := .agg #[.int .i64 u0, .int .i64 u1, .int .i64 u2, .int .i64 u3, .string u4, .string u5, .slice ua ul uc]) (by simp [results, Try.results104, go_sem, r0', r1', r2', r3', r4', r5', r6']) rfl ⟨_, fe, xe, rfl, hrF, Nat.le_trans HWE.out HPOW.out, fun c hc => Nat.le_of_lt (Nat.lt_of_le_of_lt (Nat.le_add_right _ 2) (HFE.out c hc)), cF, wF⟩
   | false =>
    have y0 := HW.out.keepC HBX.out.1 (by simp; omega)
    have y1 := HW.out.keepC HBX.out.2.1 (by simp; omega)
    have y2 := HW.out.keepC HBX.out.2.2.1 (by simp; omega)
    have y3 := HW.out.keepC HBX.out.2.2.2.1 (by simp; omega)
    have y4 := HW.out.keepC HBX.out.2.2.2.2.1 (by simp; omega)
    have y5 := HW.out.keepC HBX.out.2.2.2.2.2.1 (by simp; omega)
    have y6 := HW.out.keepC HBX.out.2.2.2.2.2.2.1 (by simp; omega)
    have y7 := HW.out.keepC HBX.out.2.2.2.2.2.2.2 (by simp; omega)
    have zy0 := blk y0
    have zy2 := blk y2
    have sW := HW.out.size
    have hrg : Rd.rd fg _ (#[.slice ag0 g0.length kg0, .slice ag1 g1.length kg1] : Array Value).toList (g0, g1) := Rd.wr (Rd.gr HG.out HG0.out) HW.out (fun c hc hm => HBG.out.1 (by rw [← List.mem_singleton.1 hm]; exact hc))
    have hrr : Rd.rd fr _ (#[.string r0, .string r1, .slice ar2 r2.length kr2, .bool false, .slice ar4 r4.length kr4, .slice ar5 r5.length kr5] : Array Value).toList (r0, r1, r2, false, r4, r5) := Rd.wr (Rd.gr HR.out HG0.out) HW.out (fun c hc hm => HBG.out.2 (by rw [← List.mem_singleton.1 hm]; exact hc))
    have HRG := Lib.hid hrg
    have HRR := Lib.hid hrr
    clear hrg hrr
    go_wp2_with fail
    refine (l10Of_any (g0, g1) (r0, r1, r2, false, r4, r5) kind _ HRG.out HRR.out HWT.out HS.out hn').mono ?_
    rintro e w' ⟨v, fo, os, rfl, hso, hlo, hno, hfo, x6, rfl⟩
    obtain ⟨ao, ko, rfl, -, -, -⟩ := hso.open
    have HSO := Lib.hid hso
    have HNO := Lib.hid hno
    have hbo : b ∉ fo := fun hm => by have := hfo b hm; omega
    have HW := Lib.hid (HW.out.gr (Gr.ext (Gr.refl _) x6))
    have HVR := Lib.hid (HVR.out.gr (Gr.ext (Gr.refl _) x6))
    have HC := Lib.hid (HC.out.gr (Gr.ext (Gr.refl _) x6))
    clear hso hno hfo
    clear y0 y1 y2 y3 y4 y5 y6 y7 zy0 zy2
    go_wp2_with fail
    refine (l4Leaf_any dd b kind fo _ os _ HC.out HSO.out hbo (by omega) HNO.out HK.out.2).mono ?_
    rintro e W6 ⟨es, fe, xe, rfl, hre, hwe, hfe, hc5, hw5⟩
    obtain ⟨u0, u1, u2, u3, u4, u5, ua, ul, uc, rfl⟩ := rdExpr_shape hre
    have HW := Lib.hid (HW.out.trans hw5)
    have HVR := Lib.hid (HVR.out.wr hw5 (by simp; omega))
    have HC := Lib.hid hc5
    clear hc5 hw5
    have HRE := Lib.hid hre
    have hsz6 := HVR.out.lt
    have HFE := Lib.hid (show ∀ c ∈ fe, w.heap.size + 2 < c from fun c hc => by have := hfe c hc; simp at this; omega)
    have HWE := Lib.hid hwe
    clear hre hfe hwe
    have e0 := HVR.out.cell (k := 0) (by simp)
    have e1 := HVR.out.cell (k := 1) (by simp)
    have e2 := HVR.out.cell (k := 2) (by simp)
    have e3 := HVR.out.cell (k := 3) (by simp)
    have e4 := HVR.out.cell (k := 4) (by simp)
    have e5 := HVR.out.cell (k := 5) (by simp)
    have e6 := HVR.out.cell (k := 6) (by simp)
    have f0 := HVR.out.frozen 0
    have f1 := HVR.out.frozen 1
    have f2 := HVR.out.frozen 2
    have f3 := HVR.out.frozen 3
    have f4 := HVR.out.frozen 4
    have f5 := HVR.out.frozen 5
    have f6 := HVR.out.frozen 6
    have ze := blk e0
    go_wp2_with fail
    clear e0 e1 e2 e3 e4 e5 e6 f0 f1 f2 f3 f4 f5 f6 ze
    generalize hF : (((((((W6.setCell ⟨w.heap.size + 1 + 1, 0, none⟩ (.int .i64 u0)).setCell ⟨w.heap.size + 1 + 1, 1, none⟩ (.int .i64 u1)).setCell ⟨w.heap.size + 1 + 1, 2, none⟩ (.int .i64 u2)).setCell ⟨w.heap.size + 1 + 1, 3, none⟩ (.int .i64 u3)).setCell ⟨w.heap.size + 1 + 1, 4, none⟩ (.string u4)).setCell ⟨w.heap.size + 1 + 1, 5, none⟩ (.string u5)).setCell ⟨w.heap.size + 1 + 1, 6, none⟩ (.slice ua ul uc)) = WF
    have vF : VRow WF (w.heap.size + 1 + 1) 157 [.int .i64 u0, .int .i64 u1, .int .i64 u2, .int .i64 u3, .string u4, .string u5, .slice ua ul uc] := by rw [← hF]; exact (VRow.put7 HVR.out _ _ _ _ _ _ _).gr (Gr.refl _)
    have wF : Wr [b] w WF := by rw [← hF]; exact ((HG0.out.toWr [b]).trans HW.out |>.more2 (Wr.put7 _ _ _ _ _ _ _ _ _) (fun x hx => .inr (by rw [List.mem_singleton.1 hx]; omega))).gr (Gr.refl _)
    have cF : CurR WF b := by rw [← hF]; exact (HC.out.wr (Wr.put7 _ _ _ _ _ _ _ _ _) (fun x hx => by rw [List.mem_singleton.1 hx]; omega)).gr (Gr.refl _)
    have hrF : Rd.rd fe WF (#[.int .i64 u0, .int .i64 u1, .int .i64 u2, .int .i64 u3, .string u4, .string u5, .slice ua ul uc] : Array Value).toList xe := by rw [← hF]; exact Rd.gr (Rd.wr HRE.out (Wr.put7 _ _ _ _ _ _ _ _ _) (fun c hc hm => by have := HFE.out c hc; rw [List.mem_singleton.1 hm] at this; omega)) (Gr.refl _)
    have r0' := vF.cell (k := 0) (by simp)
    have r1' := vF.cell (k := 1) (by simp)
    have r2' := vF.cell (k := 2) (by simp)
    have r3' := vF.cell (k := 3) (by simp)
    have r4' := vF.cell (k := 4) (by simp)
    have r5' := vF.cell (k := 5) (by simp)
    have r6' := vF.cell (k := 6) (by simp)
    clear hF vF
    exact bodyPost_ret (v := .agg #[.int .i64 u0, .int .i64 u1, .int .i64 u2, .int .i64 u3, .string u4, .string u5, .slice ua ul uc]) (by simp [results, Try.results104, go_sem, r0', r1', r2', r3', r4', r5', r6']) rfl ⟨_, fe, xe, rfl, hrF, Nat.le_trans HWE.out HPOW.out, fun c hc => Nat.le_of_lt (Nat.lt_of_le_of_lt (Nat.le_add_right _ 2) (HFE.out c hc)), cF, wF⟩
  ·have k1 : (kind == 1) = false := by simpa using hk1
   clear hk1
   have y0 := HW.out.keepC HBX.out.1 (by simp; omega)
   have y1 := HW.out.keepC HBX.out.2.1 (by simp; omega)
   have y2 := HW.out.keepC HBX.out.2.2.1 (by simp; omega)
   have y3 := HW.out.keepC HBX.out.2.2.2.1 (by simp; omega)
   have y4 := HW.out.keepC HBX.out.2.2.2.2.1 (by simp; omega)
   have y5 := HW.out.keepC HBX.out.2.2.2.2.2.1 (by simp; omega)
   have y6 := HW.out.keepC HBX.out.2.2.2.2.2.2.1 (by simp; omega)
   have y7 := HW.out.keepC HBX.out.2.2.2.2.2.2.2 (by simp; omega)
   have zy0 := blk y0
   have zy2 := blk y2
   have sW := HW.out.size
   have hrg : Rd.rd fg _ (#[.slice ag0 g0.length kg0, .slice ag1 g1.length kg1] : Array Value).toList (g0, g1) := Rd.wr (Rd.gr HG.out HG0.out) HW.out (fun c hc hm => HBG.out.1 (by rw [← List.mem_singleton.1 hm]; exact hc))
   have hrr : Rd.rd fr _ (#[.string r0, .string r1, .slice ar2 r2.length kr2, .bool r3, .slice ar4 r4.length kr4, .slice ar5 r5.length kr5] : Array Value).toList (r0, r1, r2, r3, r4, r5) := Rd.wr (Rd.gr HR.out HG0.out) HW.out (fun c hc hm => HBG.out.2 (by rw [← List.mem_singleton.1 hm]; exact hc))
   have HRG := Lib.hid hrg
   have HRR := Lib.hid hrr
   clear hrg hrr
   go_wp2_with fail
   refine (l10Of_any (g0, g1) (r0, r1, r2, r3, r4, r5) kind _ HRG.out HRR.out HWT.out HS.out hn').mono ?_
   rintro e w' ⟨v, fo, os, rfl, hso, hlo, hno, hfo, x6, rfl⟩
   obtain ⟨ao, ko, rfl, -, -, -⟩ := hso.open
   have HSO := Lib.hid hso
   have HNO := Lib.hid hno
   have hbo : b ∉ fo := fun hm => by have := hfo b hm; omega
   have HW := Lib.hid (HW.out.gr (Gr.ext (Gr.refl _) x6))
   have HVR := Lib.hid (HVR.out.gr (Gr.ext (Gr.refl _) x6))
   have HC := Lib.hid (HC.out.gr (Gr.ext (Gr.refl _) x6))
   clear hso hno hfo
   clear y0 y1 y2 y3 y4 y5 y6 y7 zy0 zy2
   go_wp2_with fail
   refine (l4Leaf_any dd b kind fo _ os _ HC.out HSO.out hbo (by omega) HNO.out HK.out.2).mono ?_
   rintro e W6 ⟨es, fe, xe, rfl, hre, hwe, hfe, hc5, hw5⟩
   obtain ⟨u0, u1, u2, u3, u4, u5, ua, ul, uc, rfl⟩ := rdExpr_shape hre
   have HW := Lib.hid (HW.out.trans hw5)
   have HVR := Lib.hid (HVR.out.wr hw5 (by simp; omega))
   have HC := Lib.hid hc5
   clear hc5 hw5
   have HRE := Lib.hid hre
   have hsz6 := HVR.out.lt
   have HFE := Lib.hid (show ∀ c ∈ fe, w.heap.size + 2 < c from fun c hc => by have := hfe c hc; simp at this; omega)
   have HWE := Lib.hid hwe
   clear hre hfe hwe
   have e0 := HVR.out.cell (k := 0) (by simp)
   have e1 := HVR.out.cell (k := 1) (by simp)
   have e2 := HVR.out.cell (k := 2) (by simp)
   have e3 := HVR.out.cell (k := 3) (by simp)
   have e4 := HVR.out.cell (k := 4) (by simp)
   have e5 := HVR.out.cell (k := 5) (by simp)
   have e6 := HVR.out.cell (k := 6) (by simp)
   have f0 := HVR.out.frozen 0
   have f1 := HVR.out.frozen 1
   have f2 := HVR.out.frozen 2
   have f3 := HVR.out.frozen 3
   have f4 := HVR.out.frozen 4
   have f5 := HVR.out.frozen 5
   have f6 := HVR.out.frozen 6
   have ze := blk e0
   go_wp2_with fail
   clear e0 e1 e2 e3 e4 e5 e6 f0 f1 f2 f3 f4 f5 f6 ze
   generalize hF : (((((((W6.setCell ⟨w.heap.size + 1 + 1, 0, none⟩ (.int .i64 u0)).setCell ⟨w.heap.size + 1 + 1, 1, none⟩ (.int .i64 u1)).setCell ⟨w.heap.size + 1 + 1, 2, none⟩ (.int .i64 u2)).setCell ⟨w.heap.size + 1 + 1, 3, none⟩ (.int .i64 u3)).setCell ⟨w.heap.size + 1 + 1, 4, none⟩ (.string u4)).setCell ⟨w.heap.size + 1 + 1, 5, none⟩ (.string u5)).setCell ⟨w.heap.size + 1 + 1, 6, none⟩ (.slice ua ul uc)) = WF
   have vF : VRow WF (w.heap.size + 1 + 1) 157 [.int .i64 u0, .int .i64 u1, .int .i64 u2, .int .i64 u3, .string u4, .string u5, .slice ua ul uc] := by rw [← hF]; exact (VRow.put7 HVR.out _ _ _ _ _ _ _).gr (Gr.refl _)
   have wF : Wr [b] w WF := by rw [← hF]; exact ((HG0.out.toWr [b]).trans HW.out |>.more2 (Wr.put7 _ _ _ _ _ _ _ _ _) (fun x hx => .inr (by rw [List.mem_singleton.1 hx]; omega))).gr (Gr.refl _)
   have cF : CurR WF b := by rw [← hF]; exact (HC.out.wr (Wr.put7 _ _ _ _ _ _ _ _ _) (fun x hx => by rw [List.mem_singleton.1 hx]; omega)).gr (Gr.refl _)
   have hrF : Rd.rd fe WF (#[.int .i64 u0, .int .i64 u1, .int .i64 u2, .int .i64 u3, .string u4, .string u5, .slice ua ul uc] : Array Value).toList xe := by rw [← hF]; exact Rd.gr (Rd.wr HRE.out (Wr.put7 _ _ _ _ _ _ _ _ _) (fun c hc hm => by have := HFE.out c hc; rw [List.mem_singleton.1 hm] at this; omega)) (Gr.refl _)
   have r0' := vF.cell (k := 0) (by simp)
   have r1' := vF.cell (k := 1) (by simp)
   have r2' := vF.cell (k := 2) (by simp)
   have r3' := vF.cell (k := 3) (by simp)
   have r4' := vF.cell (k := 4) (by simp)
   have r5' := vF.cell (k := 5) (by simp)
   have r6' := vF.cell (k := 6) (by simp)
   clear hF vF
   exact bodyPost_ret (v := .agg #[.int .i64 u0, .int .i64 u1, .int .i64 u2, .int .i64 u3, .string u4, .string u5, .slice ua ul uc]) (by simp [results, Try.results104, go_sem, r0', r1', r2', r3', r4', r5', r6']) rfl ⟨_, fe, xe, rfl, hrF, Nat.le_trans HWE.out HPOW.out, fun c hc => Nat.le_of_lt (Nat.lt_of_le_of_lt (Nat.le_add_right _ 2) (HFE.out c hc)), cF, wF⟩
 | succ n ih =>
  intro dd fg fr cg cr g r kind D w hD h hg hr hbg hbr hl hs hn hk hnd hn3
  have hp1 : 1 ≤ 4 ^ n := pow4 n
  have hps : 4 ^ (n + 1) = 4 * 4 ^ n := by rw [Nat.pow_succ, Nat.mul_comm]
  have hpow : 64 ≤ 100 * 4 ^ (n + 1) := by omega
  obtain ⟨d', rfl⟩ : ∃ d', dd = d' + 1 := ⟨dd - 1, by omega⟩
  have HIH := Lib.hid ih
  have HP := Lib.hid (And.intro hp1 hps)
  clear ih hp1 hps
  have HC0 := Lib.hid h
  have HWT := Lib.hid hl
  have HS := Lib.hid hs
  have HPOW := Lib.hid hpow
  have HBG := Lib.hid (And.intro hbg hbr)
  have hbl := h.lt
  have hkw : (Lit.int .i64 kind).wf = true := wf_small hk.1 (by omega)
  have HK := Lib.hid (And.intro hk hkw)
  clear h hl hs hpow hbg hbr hkw
  have HG := Lib.hid hg
  obtain ⟨g0, g1⟩ := g
  obtain ⟨vg0, fg0, vg1, fg1, rfl, hfpg, hg0, hg1⟩ := rdGrammar_inv g0 g1 hg
  have FPg := Lib.hid hfpg
  clear hfpg
  obtain ⟨ag0, kg0, rfl, og01, og02, og03⟩ := hg0.open
  obtain ⟨ag1, kg1, rfl, og11, og12, og13⟩ := hg1.open
  clear hg
  have HR := Lib.hid hr
  obtain ⟨r0, r1, r2, r3, r4, r5⟩ := r
  obtain ⟨vr2, fr2, vr4, fr4, vr5, fr5, rfl, hfpr, hr0, hr1, hr2, hr4, hr5⟩ := rdRule_inv r0 r1 r2 r3 r4 r5 hr
  have FPr := Lib.hid hfpr
  clear hfpr
  obtain ⟨ar2, kr2, rfl, or21, or22, or23⟩ := hr2.open
  obtain ⟨ar4, kr4, rfl, or41, or42, or43⟩ := hr4.open
  obtain ⟨ar5, kr5, rfl, or51, or52, or53⟩ := hr5.open
  clear hr
  have hn' : r2.length ≤ 1000 := hn
  clear hn
  go_enter Try.func104, Try.ntmps104
  go_upto_region 1 with fail
  generalize hW0 : ((w.alloc (.cells #[.slice ag0 g0.length kg0, .slice ag1 g1.length kg1] 114)).alloc (.cells #[.string r0, .string r1, .slice ar2 r2.length kr2, .bool r3, .slice ar4 r4.length kr4, .slice ar5 r5.length kr5] 138)).alloc (.cells #[.int .i64 0, .int .i64 0, .int .i64 0, .int .i64 0, .string ⟨#[]⟩, .string ⟨#[]⟩, .slice none 0 0] 157) = W0
  have hg0 : Gr w W0 := by rw [← hW0]; exact gd
  have HVR := Lib.hid (show VRow W0 (w.heap.size + 1 + 1) 157 [.int .i64 0, .int .i64 0, .int .i64 0, .int .i64 0, .string ⟨#[]⟩, .string ⟨#[]⟩, .slice none 0 0] by rw [← hW0]; exact VRow.new (by simp))
  have HVG := Lib.hid (show VRow W0 w.heap.size 114 [.slice ag0 g0.length kg0, .slice ag1 g1.length kg1] by rw [← hW0]; exact (VRow.new (A := w) rfl).gr gd)
  have HVU := Lib.hid (show VRow W0 (w.heap.size + 1) 138 [.string r0, .string r1, .slice ar2 r2.length kr2, .bool r3, .slice ar4 r4.length kr4, .slice ar5 r5.length kr5] by rw [← hW0]; exact (VRow.new (A := w.alloc (.cells #[.slice ag0 g0.length kg0, .slice ag1 g1.length kg1] 114)) (by simp)).gr gd)
  have HBX := Lib.hid (And.intro (HVG.out.cell (k := 0) (by simp)) (And.intro (HVG.out.cell (k := 1) (by simp)) (And.intro (HVU.out.cell (k := 0) (by simp)) (And.intro (HVU.out.cell (k := 1) (by simp)) (And.intro (HVU.out.cell (k := 2) (by simp)) (And.intro (HVU.out.cell (k := 3) (by simp)) (And.intro (HVU.out.cell (k := 4) (by simp)) (HVU.out.cell (k := 5) (by simp)))))))))
  have HW := Lib.hid (Wr.refl [b] W0)
  have HG0 := Lib.hid hg0
  have HC := Lib.hid (HC0.out.gr hg0)
  have s0 : W0.heap.size = w.heap.size + 3 := by rw [← hW0]; simp
  clear hW0 hg0
  have hd2 : ¬ (D < 2) := by omega
  have iwd : IntKind.i64.wrap (D - 1) = D - 1 := IntWalk.i64_in _ (by omega)
  have HDD := Lib.hid hD
  clear hD
  go_wp2_with fail
  refine (l1Once_any b 3 _ HC.out (by omega) (by omega)).mono ?_
  rintro e W1 ⟨x1, rfl, hc5, hw5⟩
  have HW := Lib.hid (HW.out.trans hw5)
  have HVR := Lib.hid (HVR.out.wr hw5 (by simp; omega))
  have HC := Lib.hid hc5
  clear hc5 hw5
  cases x1 with
  | true =>
   by_cases hk1 : kind = 1
   ·have k1 : (kind == 1) = true := by simp [hk1]
    clear hk1
    cases r3 with
    | true =>
     have y0 := HW.out.keepC HBX.out.1 (by simp; omega)
     have y1 := HW.out.keepC HBX.out.2.1 (by simp; omega)
     have y2 := HW.out.keepC HBX.out.2.2.1 (by simp; omega)
     have y3 := HW.out.keepC HBX.out.2.2.2.1 (by simp; omega)
     have y4 := HW.out.keepC HBX.out.2.2.2.2.1 (by simp; omega)
     have y5 := HW.out.keepC HBX.out.2.2.2.2.2.1 (by simp; omega)
     have y6 := HW.out.keepC HBX.out.2.2.2.2.2.2.1 (by simp; omega)
     have y7 := HW.out.keepC HBX.out.2.2.2.2.2.2.2 (by simp; omega)
     have zy0 := blk y0
     have zy2 := blk y2
     go_wp2_with fail
     refine (l1Once_any b 3 _ HC.out (by omega) (by omega)).mono ?_
     rintro e W5 ⟨x5, rfl, hc5, hw5⟩
     clear y0 y1 y2 y3 y4 y5 y6 y7 zy0 zy2
     have HW := Lib.hid (HW.out.trans hw5)
     have HVR := Lib.hid (HVR.out.wr hw5 (by simp; omega))
     have HC := Lib.hid hc5
     clear hc5 hw5
     cases x5 with
     | true =>
      have HRE := Lib.hid (leaf_rd (d' + 1) W5 2 0 0 0 ⟨#[]⟩ ⟨#[]⟩ (by decide) (by decide) (by decide) (by decide) (by decide) (by decide))
      have HFE := Lib.hid (show ∀ c ∈ ([] : List Nat), w.heap.size + 2 < c by simp)
      have e0 := HVR.out.cell (k := 0) (by simp)
      have e1 := HVR.out.cell (k := 1) (by simp)
      have e2 := HVR.out.cell (k := 2) (by simp)
      have e3 := HVR.out.cell (k := 3) (by simp)
      have e4 := HVR.out.cell (k := 4) (by simp)
      have e5 := HVR.out.cell (k := 5) (by simp)
      have e6 := HVR.out.cell (k := 6) (by simp)
      have f0 := HVR.out.frozen 0
      have f1 := HVR.out.frozen 1
      have f2 := HVR.out.frozen 2
      have f3 := HVR.out.frozen 3
      have f4 := HVR.out.frozen 4
      have f5 := HVR.out.frozen 5
      have f6 := HVR.out.frozen 6
      have ze := blk e0
      go_wp2_with fail
      clear e0 e1 e2 e3 e4 e5 e6 f0 f1 f2 f3 f4 f5 f6 ze
      generalize hF : (((((((W5.setCell ⟨w.heap.size + 1 + 1, 0, none⟩ (.int .i64 2)).setCell ⟨w.heap.size + 1 + 1, 1, none⟩ (.int .i64 0)).setCell ⟨w.heap.size + 1 + 1, 2, none⟩ (.int .i64 0)).setCell ⟨w.heap.size + 1 + 1, 3, none⟩ (.int .i64 0)).setCell ⟨w.heap.size + 1 + 1, 4, none⟩ (.string ⟨#[]⟩)).setCell ⟨w.heap.size + 1 + 1, 5, none⟩ (.string ⟨#[]⟩)).setCell ⟨w.heap.size + 1 + 1, 6, none⟩ (.slice none 0 0)) = WF
      have vF : VRow WF (w.heap.size + 1 + 1) 157 [.int .i64 2, .int .i64 0, .int .i64 0, .int .i64 0, .string ⟨#[]⟩, .string ⟨#[]⟩, .slice none 0 0] := by rw [← hF]; exact (VRow.put7 HVR.out _ _ _ _ _ _ _).gr (Gr.refl _)
      have wF : Wr [b] w WF := by rw [← hF]; exact ((HG0.out.toWr [b]).trans HW.out |>.more2 (Wr.put7 _ _ _ _ _ _ _ _ _) (fun x hx => .inr (by rw [List.mem_singleton.1 hx]; omega))).gr (Gr.refl _)
      have cF : CurR WF b := by rw [← hF]; exact (HC.out.wr (Wr.put7 _ _ _ _ _ _ _ _ _) (fun x hx => by rw [List.mem_singleton.1 hx]; omega)).gr (Gr.refl _)
      have hrF : Rd.rd [] WF (#[.int .i64 2, .int .i64 0, .int .i64 0, .int .i64 0, .string ⟨#[]⟩, .string ⟨#[]⟩, .slice none 0 0] : Array Value).toList ((2, 0, 0, 0, ⟨#[]⟩, ⟨#[]⟩, []) : GExpr (d' + 1)) := by rw [← hF]; exact Rd.gr (Rd.wr HRE.out (Wr.put7 _ _ _ _ _ _ _ _ _) (fun c hc hm => by have := HFE.out c hc; rw [List.mem_singleton.1 hm] at this; omega)) (Gr.refl _)
      have r0' := vF.cell (k := 0) (by simp)
      have r1' := vF.cell (k := 1) (by simp)
      have r2' := vF.cell (k := 2) (by simp)
      have r3' := vF.cell (k := 3) (by simp)
      have r4' := vF.cell (k := 4) (by simp)
      have r5' := vF.cell (k := 5) (by simp)
      have r6' := vF.cell (k := 6) (by simp)
      clear hF vF
      exact bodyPost_ret (v := .agg #[.int .i64 2, .int .i64 0, .int .i64 0, .int .i64 0, .string ⟨#[]⟩, .string ⟨#[]⟩, .slice none 0 0]) (by simp [results, Try.results104, go_sem, r0', r1', r2', r3', r4', r5', r6']) rfl ⟨_, [], ((2, 0, 0, 0, ⟨#[]⟩, ⟨#[]⟩, []) : GExpr (d' + 1)), rfl, hrF, by show 0 + 0 + wtL _ [] ≤ _; simp [wtL], fun c hc => Nat.le_of_lt (Nat.lt_of_le_of_lt (Nat.le_add_right _ 2) (HFE.out c hc)), cF, wF⟩
     | false =>
      have y0 := HW.out.keepC HBX.out.1 (by simp; omega)
      have y1 := HW.out.keepC HBX.out.2.1 (by simp; omega)
      have y2 := HW.out.keepC HBX.out.2.2.1 (by simp; omega)
      have y3 := HW.out.keepC HBX.out.2.2.2.1 (by simp; omega)
      have y4 := HW.out.keepC HBX.out.2.2.2.2.1 (by simp; omega)
      have y5 := HW.out.keepC HBX.out.2.2.2.2.2.1 (by simp; omega)
      have y6 := HW.out.keepC HBX.out.2.2.2.2.2.2.1 (by simp; omega)
      have y7 := HW.out.keepC HBX.out.2.2.2.2.2.2.2 (by simp; omega)
      have zy0 := blk y0
      have zy2 := blk y2
      have sW := HW.out.size
      have hrg : Rd.rd fg _ (#[.slice ag0 g0.length kg0, .slice ag1 g1.length kg1] : Array Value).toList (g0, g1) := Rd.wr (Rd.gr HG.out HG0.out) HW.out (fun c hc hm => HBG.out.1 (by rw [← List.mem_singleton.1 hm]; exact hc))
      have hrr : Rd.rd fr _ (#[.string r0, .string r1, .slice ar2 r2.length kr2, .bool true, .slice ar4 r4.length kr4, .slice ar5 r5.length kr5] : Array Value).toList (r0, r1, r2, true, r4, r5) := Rd.wr (Rd.gr HR.out HG0.out) HW.out (fun c hc hm => HBG.out.2 (by rw [← List.mem_singleton.1 hm]; exact hc))
      have HRG := Lib.hid hrg
      have HRR := Lib.hid hrr
      clear hrg hrr
      go_wp2_with fail
      refine (l10Of_any (g0, g1) (r0, r1, r2, true, r4, r5) kind _ HRG.out HRR.out HWT.out HS.out hn').mono ?_
      rintro e w' ⟨v, fo, os, rfl, hso, hlo, hno, hfo, x6, rfl⟩
      obtain ⟨ao, ko, rfl, -, -, -⟩ := hso.open
      have HSO := Lib.hid hso
      have HNO := Lib.hid hno
      have hbo : b ∉ fo := fun hm => by have := hfo b hm; omega
      have HW := Lib.hid (HW.out.gr (Gr.ext (Gr.refl _) x6))
      have HVR := Lib.hid (HVR.out.gr (Gr.ext (Gr.refl _) x6))
      have HC := Lib.hid (HC.out.gr (Gr.ext (Gr.refl _) x6))
      clear hso hno hfo
      clear y0 y1 y2 y3 y4 y5 y6 y7 zy0 zy2
      go_wp2_with fail
      refine (l4Leaf_any (d' + 1) b kind fo _ os _ HC.out HSO.out hbo (by omega) HNO.out HK.out.2).mono ?_
      rintro e W6 ⟨es, fe, xe, rfl, hre, hwe, hfe, hc5, hw5⟩
      obtain ⟨u0, u1, u2, u3, u4, u5, ua, ul, uc, rfl⟩ := rdExpr_shape hre
      have HW := Lib.hid (HW.out.trans hw5)
      have HVR := Lib.hid (HVR.out.wr hw5 (by simp; omega))
      have HC := Lib.hid hc5
      clear hc5 hw5
      have HRE := Lib.hid hre
      have hsz6 := HVR.out.lt
      have HFE := Lib.hid (show ∀ c ∈ fe, w.heap.size + 2 < c from fun c hc => by have := hfe c hc; simp at this; omega)
      have HWE := Lib.hid hwe
      clear hre hfe hwe
      have e0 := HVR.out.cell (k := 0) (by simp)
      have e1 := HVR.out.cell (k := 1) (by simp)
      have e2 := HVR.out.cell (k := 2) (by simp)
      have e3 := HVR.out.cell (k := 3) (by simp)
      have e4 := HVR.out.cell (k := 4) (by simp)
      have e5 := HVR.out.cell (k := 5) (by simp)
      have e6 := HVR.out.cell (k := 6) (by simp)
      have f0 := HVR.out.frozen 0
      have f1 := HVR.out.frozen 1
      have f2 := HVR.out.frozen 2
      have f3 := HVR.out.frozen 3
      have f4 := HVR.out.frozen 4
      have f5 := HVR.out.frozen 5
      have f6 := HVR.out.frozen 6
      have ze := blk e0
      go_wp2_with fail
      clear e0 e1 e2 e3 e4 e5 e6 f0 f1 f2 f3 f4 f5 f6 ze
      generalize hF : (((((((W6.setCell ⟨w.heap.size + 1 + 1, 0, none⟩ (.int .i64 u0)).setCell ⟨w.heap.size + 1 + 1, 1, none⟩ (.int .i64 u1)).setCell ⟨w.heap.size + 1 + 1, 2, none⟩ (.int .i64 u2)).setCell ⟨w.heap.size + 1 + 1, 3, none⟩ (.int .i64 u3)).setCell ⟨w.heap.size + 1 + 1, 4, none⟩ (.string u4)).setCell ⟨w.heap.size + 1 + 1, 5, none⟩ (.string u5)).setCell ⟨w.heap.size + 1 + 1, 6, none⟩ (.slice ua ul uc)) = WF
      have vF : VRow WF (w.heap.size + 1 + 1) 157 [.int .i64 u0, .int .i64 u1, .int .i64 u2, .int .i64 u3, .string u4, .string u5, .slice ua ul uc] := by rw [← hF]; exact (VRow.put7 HVR.out _ _ _ _ _ _ _).gr (Gr.refl _)
      have wF : Wr [b] w WF := by rw [← hF]; exact ((HG0.out.toWr [b]).trans HW.out |>.more2 (Wr.put7 _ _ _ _ _ _ _ _ _) (fun x hx => .inr (by rw [List.mem_singleton.1 hx]; omega))).gr (Gr.refl _)
      have cF : CurR WF b := by rw [← hF]; exact (HC.out.wr (Wr.put7 _ _ _ _ _ _ _ _ _) (fun x hx => by rw [List.mem_singleton.1 hx]; omega)).gr (Gr.refl _)
      have hrF : Rd.rd fe WF (#[.int .i64 u0, .int .i64 u1, .int .i64 u2, .int .i64 u3, .string u4, .string u5, .slice ua ul uc] : Array Value).toList xe := by rw [← hF]; exact Rd.gr (Rd.wr HRE.out (Wr.put7 _ _ _ _ _ _ _ _ _) (fun c hc hm => by have := HFE.out c hc; rw [List.mem_singleton.1 hm] at this; omega)) (Gr.refl _)
      have r0' := vF.cell (k := 0) (by simp)
      have r1' := vF.cell (k := 1) (by simp)
      have r2' := vF.cell (k := 2) (by simp)
      have r3' := vF.cell (k := 3) (by simp)
      have r4' := vF.cell (k := 4) (by simp)
      have r5' := vF.cell (k := 5) (by simp)
      have r6' := vF.cell (k := 6) (by simp)
      clear hF vF
      exact bodyPost_ret (v := .agg #[.int .i64 u0, .int .i64 u1, .int .i64 u2, .int .i64 u3, .string u4, .string u5, .slice ua ul uc]) (by simp [results, Try.results104, go_sem, r0', r1', r2', r3', r4', r5', r6']) rfl ⟨_, fe, xe, rfl, hrF, Nat.le_trans HWE.out HPOW.out, fun c hc => Nat.le_of_lt (Nat.lt_of_le_of_lt (Nat.le_add_right _ 2) (HFE.out c hc)), cF, wF⟩
    | false =>
     have y0 := HW.out.keepC HBX.out.1 (by simp; omega)
     have y1 := HW.out.keepC HBX.out.2.1 (by simp; omega)
     have y2 := HW.out.keepC HBX.out.2.2.1 (by simp; omega)
     have y3 := HW.out.keepC HBX.out.2.2.2.1 (by simp; omega)
     have y4 := HW.out.keepC HBX.out.2.2.2.2.1 (by simp; omega)
     have y5 := HW.out.keepC HBX.out.2.2.2.2.2.1 (by simp; omega)
     have y6 := HW.out.keepC HBX.out.2.2.2.2.2.2.1 (by simp; omega)
     have y7 := HW.out.keepC HBX.out.2.2.2.2.2.2.2 (by simp; omega)
     have zy0 := blk y0
     have zy2 := blk y2
     have sW := HW.out.size
     have hrg : Rd.rd fg _ (#[.slice ag0 g0.length kg0, .slice ag1 g1.length kg1] : Array Value).toList (g0, g1) := Rd.wr (Rd.gr HG.out HG0.out) HW.out (fun c hc hm => HBG.out.1 (by rw [← List.mem_singleton.1 hm]; exact hc))
     have hrr : Rd.rd fr _ (#[.string r0, .string r1, .slice ar2 r2.length kr2, .bool false, .slice ar4 r4.length kr4, .slice ar5 r5.length kr5] : Array Value).toList (r0, r1, r2, false, r4, r5) := Rd.wr (Rd.gr HR.out HG0.out) HW.out (fun c hc hm => HBG.out.2 (by rw [← List.mem_singleton.1 hm]; exact hc))
     have HRG := Lib.hid hrg
     have HRR := Lib.hid hrr
     clear hrg hrr
     go_wp2_with fail
     refine (l10Of_any (g0, g1) (r0, r1, r2, false, r4, r5) kind _ HRG.out HRR.out HWT.out HS.out hn').mono ?_
     rintro e w' ⟨v, fo, os, rfl, hso, hlo, hno, hfo, x6, rfl⟩
     obtain ⟨ao, ko, rfl, -, -, -⟩ := hso.open
     have HSO := Lib.hid hso
     have HNO := Lib.hid hno
     have hbo : b ∉ fo := fun hm => by have := hfo b hm; omega
     have HW := Lib.hid (HW.out.gr (Gr.ext (Gr.refl _) x6))
     have HVR := Lib.hid (HVR.out.gr (Gr.ext (Gr.refl _) x6))
     have HC := Lib.hid (HC.out.gr (Gr.ext (Gr.refl _) x6))
     clear hso hno hfo
     clear y0 y1 y2 y3 y4 y5 y6 y7 zy0 zy2
     go_wp2_with fail
     refine (l4Leaf_any (d' + 1) b kind fo _ os _ HC.out HSO.out hbo (by omega) HNO.out HK.out.2).mono ?_
     rintro e W6 ⟨es, fe, xe, rfl, hre, hwe, hfe, hc5, hw5⟩
     obtain ⟨u0, u1, u2, u3, u4, u5, ua, ul, uc, rfl⟩ := rdExpr_shape hre
     have HW := Lib.hid (HW.out.trans hw5)
     have HVR := Lib.hid (HVR.out.wr hw5 (by simp; omega))
     have HC := Lib.hid hc5
     clear hc5 hw5
     have HRE := Lib.hid hre
     have hsz6 := HVR.out.lt
     have HFE := Lib.hid (show ∀ c ∈ fe, w.heap.size + 2 < c from fun c hc => by have := hfe c hc; simp at this; omega)
     have HWE := Lib.hid hwe
     clear hre hfe hwe
     have e0 := HVR.out.cell (k := 0) (by simp)
     have e1 := HVR.out.cell (k := 1) (by simp)
     have e2 := HVR.out.cell (k := 2) (by simp)
     have e3 := HVR.out.cell (k := 3) (by simp)
     have e4 := HVR.out.cell (k := 4) (by simp)
     have e5 := HVR.out.cell (k := 5) (by simp)
     have e6 := HVR.out.cell (k := 6) (by simp)
     have f0 := HVR.out.frozen 0
     have f1 := HVR.out.frozen 1
     have f2 := HVR.out.frozen 2
     have f3 := HVR.out.frozen 3
     have f4 := HVR.out.frozen 4
     have f5 := HVR.out.frozen 5
     have f6 := HVR.out.frozen 6
     have ze := blk e0
     go_wp2_with fail
     clear e0 e1 e2 e3 e4 e5 e6 f0 f1 f2 f3 f4 f5 f6 ze
     generalize hF : (((((((W6.setCell ⟨w.heap.size + 1 + 1, 0, none⟩ (.int .i64 u0)).setCell ⟨w.heap.size + 1 + 1, 1, none⟩ (.int .i64 u1)).setCell ⟨w.heap.size + 1 + 1, 2, none⟩ (.int .i64 u2)).setCell ⟨w.heap.size + 1 + 1, 3, none⟩ (.int .i64 u3)).setCell ⟨w.heap.size + 1 + 1, 4, none⟩ (.string u4)).setCell ⟨w.heap.size + 1 + 1, 5, none⟩ (.string u5)).setCell ⟨w.heap.size + 1 + 1, 6, none⟩ (.slice ua ul uc)) = WF
     have vF : VRow WF (w.heap.size + 1 + 1) 157 [.int .i64 u0, .int .i64 u1, .int .i64 u2, .int .i64 u3, .string u4, .string u5, .slice ua ul uc] := by rw [← hF]; exact (VRow.put7 HVR.out _ _ _ _ _ _ _).gr (Gr.refl _)
     have wF : Wr [b] w WF := by rw [← hF]; exact ((HG0.out.toWr [b]).trans HW.out |>.more2 (Wr.put7 _ _ _ _ _ _ _ _ _) (fun x hx => .inr (by rw [List.mem_singleton.1 hx]; omega))).gr (Gr.refl _)
     have cF : CurR WF b := by rw [← hF]; exact (HC.out.wr (Wr.put7 _ _ _ _ _ _ _ _ _) (fun x hx => by rw [List.mem_singleton.1 hx]; omega)).gr (Gr.refl _)
     have hrF : Rd.rd fe WF (#[.int .i64 u0, .int .i64 u1, .int .i64 u2, .int .i64 u3, .string u4, .string u5, .slice ua ul uc] : Array Value).toList xe := by rw [← hF]; exact Rd.gr (Rd.wr HRE.out (Wr.put7 _ _ _ _ _ _ _ _ _) (fun c hc hm => by have := HFE.out c hc; rw [List.mem_singleton.1 hm] at this; omega)) (Gr.refl _)
     have r0' := vF.cell (k := 0) (by simp)
     have r1' := vF.cell (k := 1) (by simp)
     have r2' := vF.cell (k := 2) (by simp)
     have r3' := vF.cell (k := 3) (by simp)
     have r4' := vF.cell (k := 4) (by simp)
     have r5' := vF.cell (k := 5) (by simp)
     have r6' := vF.cell (k := 6) (by simp)
     clear hF vF
     exact bodyPost_ret (v := .agg #[.int .i64 u0, .int .i64 u1, .int .i64 u2, .int .i64 u3, .string u4, .string u5, .slice ua ul uc]) (by simp [results, Try.results104, go_sem, r0', r1', r2', r3', r4', r5', r6']) rfl ⟨_, fe, xe, rfl, hrF, Nat.le_trans HWE.out HPOW.out, fun c hc => Nat.le_of_lt (Nat.lt_of_le_of_lt (Nat.le_add_right _ 2) (HFE.out c hc)), cF, wF⟩
   ·have k1 : (kind == 1) = false := by simpa using hk1
    clear hk1
    have y0 := HW.out.keepC HBX.out.1 (by simp; omega)
    have y1 := HW.out.keepC HBX.out.2.1 (by simp; omega)
    have y2 := HW.out.keepC HBX.out.2.2.1 (by simp; omega)
    have y3 := HW.out.keepC HBX.out.2.2.2.1 (by simp; omega)
    have y4 := HW.out.keepC HBX.out.2.2.2.2.1 (by simp; omega)
    have y5 := HW.out.keepC HBX.out.2.2.2.2.2.1 (by simp; omega)
    have y6 := HW.out.keepC HBX.out.2.2.2.2.2.2.1 (by simp; omega)
    have y7 := HW.out.keepC HBX.out.2.2.2.2.2.2.2 (by simp; omega)
    have zy0 := blk y0
    have zy2 := blk y2
    have sW := HW.out.size
    have hrg : Rd.rd fg _ (#[.slice ag0 g0.length kg0, .slice ag1 g1.length kg1] : Array Value).toList (g0, g1) := Rd.wr (Rd.gr HG.out HG0.out) HW.out (fun c hc hm => HBG.out.1 (by rw [← List.mem_singleton.1 hm]; exact hc))
    have hrr : Rd.rd fr _ (#[.string r0, .string r1, .slice ar2 r2.length kr2, .bool r3, .slice ar4 r4.length kr4, .slice ar5 r5.length kr5] : Array Value).toList (r0, r1, r2, r3, r4, r5) := Rd.wr (Rd.gr HR.out HG0.out) HW.out (fun c hc hm => HBG.out.2 (by rw [← List.mem_singleton.1 hm]; exact hc))
    have HRG := Lib.hid hrg
    have HRR := Lib.hid hrr
    clear hrg hrr
    go_wp2_with fail
    refine (l10Of_any (g0, g1) (r0, r1, r2, r3, r4, r5) kind _ HRG.out HRR.out HWT.out HS.out hn').mono ?_
    rintro e w' ⟨v, fo, os, rfl, hso, hlo, hno, hfo, x6, rfl⟩
    obtain ⟨ao, ko, rfl, -, -, -⟩ := hso.open
    have HSO := Lib.hid hso
    have HNO := Lib.hid hno
    have hbo : b ∉ fo := fun hm => by have := hfo b hm; omega
    have HW := Lib.hid (HW.out.gr (Gr.ext (Gr.refl _) x6))
    have HVR := Lib.hid (HVR.out.gr (Gr.ext (Gr.refl _) x6))
    have HC := Lib.hid (HC.out.gr (Gr.ext (Gr.refl _) x6))
    clear hso hno hfo
    clear y0 y1 y2 y3 y4 y5 y6 y7 zy0 zy2
    go_wp2_with fail
    refine (l4Leaf_any (d' + 1) b kind fo _ os _ HC.out HSO.out hbo (by omega) HNO.out HK.out.2).mono ?_
    rintro e W6 ⟨es, fe, xe, rfl, hre, hwe, hfe, hc5, hw5⟩
    obtain ⟨u0, u1, u2, u3, u4, u5, ua, ul, uc, rfl⟩ := rdExpr_shape hre
    have HW := Lib.hid (HW.out.trans hw5)
    have HVR := Lib.hid (HVR.out.wr hw5 (by simp; omega))
    have HC := Lib.hid hc5
    clear hc5 hw5
    have HRE := Lib.hid hre
    have hsz6 := HVR.out.lt
    have HFE := Lib.hid (show ∀ c ∈ fe, w.heap.size + 2 < c from fun c hc => by have := hfe c hc; simp at this; omega)
    have HWE := Lib.hid hwe
    clear hre hfe hwe
    have e0 := HVR.out.cell (k := 0) (by simp)
    have e1 := HVR.out.cell (k := 1) (by simp)
    have e2 := HVR.out.cell (k := 2) (by simp)
    have e3 := HVR.out.cell (k := 3) (by simp)
    have e4 := HVR.out.cell (k := 4) (by simp)
    have e5 := HVR.out.cell (k := 5) (by simp)
    have e6 := HVR.out.cell (k := 6) (by simp)
    have f0 := HVR.out.frozen 0
    have f1 := HVR.out.frozen 1
    have f2 := HVR.out.frozen 2
    have f3 := HVR.out.frozen 3
    have f4 := HVR.out.frozen 4
    have f5 := HVR.out.frozen 5
    have f6 := HVR.out.frozen 6
    have ze := blk e0
    go_wp2_with fail
    clear e0 e1 e2 e3 e4 e5 e6 f0 f1 f2 f3 f4 f5 f6 ze
    generalize hF : (((((((W6.setCell ⟨w.heap.size + 1 + 1, 0, none⟩ (.int .i64 u0)).setCell ⟨w.heap.size + 1 + 1, 1, none⟩ (.int .i64 u1)).setCell ⟨w.heap.size + 1 + 1, 2, none⟩ (.int .i64 u2)).setCell ⟨w.heap.size + 1 + 1, 3, none⟩ (.int .i64 u3)).setCell ⟨w.heap.size + 1 + 1, 4, none⟩ (.string u4)).setCell ⟨w.heap.size + 1 + 1, 5, none⟩ (.string u5)).setCell ⟨w.heap.size + 1 + 1, 6, none⟩ (.slice ua ul uc)) = WF
    have vF : VRow WF (w.heap.size + 1 + 1) 157 [.int .i64 u0, .int .i64 u1, .int .i64 u2, .int .i64 u3, .string u4, .string u5, .slice ua ul uc] := by rw [← hF]; exact (VRow.put7 HVR.out _ _ _ _ _ _ _).gr (Gr.refl _)
    have wF : Wr [b] w WF := by rw [← hF]; exact ((HG0.out.toWr [b]).trans HW.out |>.more2 (Wr.put7 _ _ _ _ _ _ _ _ _) (fun x hx => .inr (by rw [List.mem_singleton.1 hx]; omega))).gr (Gr.refl _)
    have cF : CurR WF b := by rw [← hF]; exact (HC.out.wr (Wr.put7 _ _ _ _ _ _ _ _ _) (fun x hx => by rw [List.mem_singleton.1 hx]; omega)).gr (Gr.refl _)
    have hrF : Rd.rd fe WF (#[.int .i64 u0, .int .i64 u1, .int .i64 u2, .int .i64 u3, .string u4, .string u5, .slice ua ul uc] : Array Value).toList xe := by rw [← hF]; exact Rd.gr (Rd.wr HRE.out (Wr.put7 _ _ _ _ _ _ _ _ _) (fun c hc hm => by have := HFE.out c hc; rw [List.mem_singleton.1 hm] at this; omega)) (Gr.refl _)
    have r0' := vF.cell (k := 0) (by simp)
    have r1' := vF.cell (k := 1) (by simp)
    have r2' := vF.cell (k := 2) (by simp)
    have r3' := vF.cell (k := 3) (by simp)
    have r4' := vF.cell (k := 4) (by simp)
    have r5' := vF.cell (k := 5) (by simp)
    have r6' := vF.cell (k := 6) (by simp)
    clear hF vF
    exact bodyPost_ret (v := .agg #[.int .i64 u0, .int .i64 u1, .int .i64 u2, .int .i64 u3, .string u4, .string u5, .slice ua ul uc]) (by simp [results, Try.results104, go_sem, r0', r1', r2', r3', r4', r5', r6']) rfl ⟨_, fe, xe, rfl, hrF, Nat.le_trans HWE.out HPOW.out, fun c hc => Nat.le_of_lt (Nat.lt_of_le_of_lt (Nat.le_add_right _ 2) (HFE.out c hc)), cF, wF⟩
  | false =>
   go_wp2_with fail
   refine (l1Once_any b 6 _ HC.out (by omega) (by omega)).mono ?_
   rintro e W2 ⟨x2, rfl, hc5, hw5⟩
   have HW := Lib.hid (HW.out.trans hw5)
   have HVR := Lib.hid (HVR.out.wr hw5 (by simp; omega))
   have HC := Lib.hid hc5
   clear hc5 hw5
   cases x2 with
   | true =>
    have hs03 := HW.out.size
    have hrg : Rd.rd fg _ (#[.slice ag0 g0.length kg0, .slice ag1 g1.length kg1] : Array Value).toList (g0, g1) := Rd.wr (Rd.gr HG.out HG0.out) HW.out (fun c hc hm => HBG.out.1 (by rw [← List.mem_singleton.1 hm]; exact hc))
    have hrr : Rd.rd fr _ (#[.string r0, .string r1, .slice ar2 r2.length kr2, .bool r3, .slice ar4 r4.length kr4, .slice ar5 r5.length kr5] : Array Value).toList (r0, r1, r2, r3, r4, r5) := Rd.wr (Rd.gr HR.out HG0.out) HW.out (fun c hc hm => HBG.out.2 (by rw [← List.mem_singleton.1 hm]; exact hc))
    have HRG := Lib.hid hrg
    have HRR := Lib.hid hrr
    clear hrg hrr
    have kk0 := fun (w' : World) (h : Wr [b] W0 w') => h.keepC HBX.out.1 (by simp; omega)
    have kk1 := fun (w' : World) (h : Wr [b] W0 w') => h.keepC HBX.out.2.1 (by simp; omega)
    have kk2 := fun (w' : World) (h : Wr [b] W0 w') => h.keepC HBX.out.2.2.1 (by simp; omega)
    have kk3 := fun (w' : World) (h : Wr [b] W0 w') => h.keepC HBX.out.2.2.2.1 (by simp; omega)
    have kk4 := fun (w' : World) (h : Wr [b] W0 w') => h.keepC HBX.out.2.2.2.2.1 (by simp; omega)
    have kk5 := fun (w' : World) (h : Wr [b] W0 w') => h.keepC HBX.out.2.2.2.2.2.1 (by simp; omega)
    have kk6 := fun (w' : World) (h : Wr [b] W0 w') => h.keepC HBX.out.2.2.2.2.2.2.1 (by simp; omega)
    have kk7 := fun (w' : World) (h : Wr [b] W0 w') => h.keepC HBX.out.2.2.2.2.2.2.2 (by simp; omega)
    go_wp2_with fail
    refine wp_region_U (fun w' => Wr [b] W0 w') 25 (by kernel_rfl) (HW.out.gr (Gr.drew (Gr.refl _))) (fun hU => ?_)
    refine anyU_q 0 ?_
    try simp only [Act.put, uq1, uq2, uq3]
    refine anyU_q 1 ?_
    try simp only [Act.put, uq1, uq2, uq3]
    refine anyU_q 2 ?_
    try simp only [Act.put, uq1, uq2, uq3]
    refine anyU_q 3 ?_
    try simp only [Act.put, uq1, uq2, uq3]
    refine anyU_q 5 ?_
    try simp only [Act.put, uq1, uq2, uq3]
    refine anyU_q 7 ?_
    try simp only [Act.put, uq1, uq2, uq3]
    refine anyU_q 8 ?_
    try simp only [Act.put, uq1, uq2, uq3]
    refine anyU_q 9 ?_
    try simp only [Act.put, uq1, uq2, uq3]
    refine anyU_q 10 ?_
    try simp only [Act.put, uq1, uq2, uq3]
    refine anyU_q 11 ?_
    try simp only [Act.put, uq1, uq2, uq3]
    refine anyU_q 13 ?_
    try simp only [Act.put, uq1, uq2, uq3]
    refine anyU_q 15 ?_
    try simp only [Act.put, uq1, uq2, uq3]
    refine anyU_q 16 ?_
    try simp only [Act.put, uq1, uq2, uq3]
    refine anyU_q 17 ?_
    try simp only [Act.put, uq1, uq2, uq3]
    refine anyU_q 18 ?_
    try simp only [Act.put, uq1, uq2, uq3]
    refine anyU_q 19 ?_
    try simp only [Act.put, uq1, uq2, uq3]
    refine anyU_q 21 ?_
    try simp only [Act.put, uq1, uq2, uq3]
    refine anyU_q 4 ?_
    try simp only [Act.put, uq1, uq2, uq3]
    refine anyU_q 12 ?_
    try simp only [Act.put, uq1, uq2, uq3]
    refine anyU_q 20 ?_
    try simp only [Act.put, uq1, uq2, uq3]
    refine anyU_ready (rs := [6]) (by kernel_rfl) (by simp) ?_
    refine (ReadyU.cons rfl (fun K hK => ?_) ReadyU.nil)
    go_simp
    go_at_call 104
    refine (HIH.out d' fg fr _ _ (g0, g1) (r0, r1, r2, r3, r4, r5) 3 (D - 1) _ (by have := HDD.out; omega) (HC.out.gr (Gr.drew (Gr.refl _))) (Rd.gr HRG.out (Gr.drew (Gr.refl _))) (Rd.gr HRR.out (Gr.drew (Gr.refl _))) HBG.out.1 HBG.out.2 HWT.out HS.out hn' ⟨by decide, by decide⟩ (by omega) (by omega)).mono ?_
    rintro e W6 ⟨es6, fe6, xe6, rfl, hre6, hwe6, hfe6, hc5, hw5⟩
    obtain ⟨u60, u61, u62, u63, u64, u65, u6a, u6l, u6c, rfl⟩ := rdExpr_shape hre6
    have hw5 := ((Gr.drew (Gr.refl _)) : Gr W2 _).toWr [b] |>.trans hw5
    have HWP6 := Lib.hid hw5
    have HW := Lib.hid (HW.out.trans hw5)
    have HVR := Lib.hid (HVR.out.wr hw5 (by simp; omega))
    have HC := Lib.hid hc5
    clear hc5 hw5
    have hrg : Rd.rd fg _ (#[.slice ag0 g0.length kg0, .slice ag1 g1.length kg1] : Array Value).toList (g0, g1) := Rd.wr (Rd.gr HG.out HG0.out) HW.out (fun c hc hm => HBG.out.1 (by rw [← List.mem_singleton.1 hm]; exact hc))
    have hrr : Rd.rd fr _ (#[.string r0, .string r1, .slice ar2 r2.length kr2, .bool r3, .slice ar4 r4.length kr4, .slice ar5 r5.length kr5] : Array Value).toList (r0, r1, r2, r3, r4, r5) := Rd.wr (Rd.gr HR.out HG0.out) HW.out (fun c hc hm => HBG.out.2 (by rw [← List.mem_singleton.1 hm]; exact hc))
    have HRG := Lib.hid hrg
    have HRR := Lib.hid hrr
    clear hrg hrr
    have HRE6 := Lib.hid hre6
    have HWE6 := Lib.hid hwe6
    have HFE6 := Lib.hid (show ∀ c ∈ fe6, W2.heap.size ≤ c from fun c hc => by have := hfe6 c hc; (try simp at this); omega)
    have hsz6 := HWP6.out.size
    clear hre6 hwe6 hfe6
    refine hK.out _ _ HW.out (fun hU6 => ?_)
    clear hK K
    try simp only [Act.put, uq1, uq2, uq3]
    refine anyU_ready (rs := [14]) (by kernel_rfl) (by simp) ?_
    refine (ReadyU.cons rfl (fun K hK => ?_) ReadyU.nil)
    go_simp
    go_at_call 104
    refine (HIH.out d' fg fr _ _ (g0, g1) (r0, r1, r2, r3, r4, r5) kind (D - 1) _ (by have := HDD.out; omega) (HC.out.gr (Gr.refl _)) (Rd.gr HRG.out (Gr.refl _)) (Rd.gr HRR.out (Gr.refl _)) HBG.out.1 HBG.out.2 HWT.out HS.out hn' HK.out.1 (by omega) (by omega)).mono ?_
    rintro e W7 ⟨es7, fe7, xe7, rfl, hre7, hwe7, hfe7, hc5, hw5⟩
    obtain ⟨u70, u71, u72, u73, u74, u75, u7a, u7l, u7c, rfl⟩ := rdExpr_shape hre7
    have hw5 := ((Gr.refl _) : Gr W6 _).toWr [b] |>.trans hw5
    have HWP7 := Lib.hid hw5
    have HW := Lib.hid (HW.out.trans hw5)
    have HVR := Lib.hid (HVR.out.wr hw5 (by simp; omega))
    have HC := Lib.hid hc5
    clear hc5 hw5
    have hrg : Rd.rd fg _ (#[.slice ag0 g0.length kg0, .slice ag1 g1.length kg1] : Array Value).toList (g0, g1) := Rd.wr (Rd.gr HG.out HG0.out) HW.out (fun c hc hm => HBG.out.1 (by rw [← List.mem_singleton.1 hm]; exact hc))
    have hrr : Rd.rd fr _ (#[.string r0, .string r1, .slice ar2 r2.length kr2, .bool r3, .slice ar4 r4.length kr4, .slice ar5 r5.length kr5] : Array Value).toList (r0, r1, r2, r3, r4, r5) := Rd.wr (Rd.gr HR.out HG0.out) HW.out (fun c hc hm => HBG.out.2 (by rw [← List.mem_singleton.1 hm]; exact hc))
    have HRG := Lib.hid hrg
    have HRR := Lib.hid hrr
    clear hrg hrr
    have HRE7 := Lib.hid hre7
    have HWE7 := Lib.hid hwe7
    have HFE7 := Lib.hid (show ∀ c ∈ fe7, W6.heap.size ≤ c from fun c hc => by have := hfe7 c hc; (try simp at this); omega)
    have hsz7 := HWP7.out.size
    clear hre7 hwe7 hfe7
    refine hK.out _ _ HW.out (fun hU7 => ?_)
    clear hK K
    try simp only [Act.put, uq1, uq2, uq3]
    refine anyU_ready (rs := [22]) (by kernel_rfl) (by simp) ?_
    refine (ReadyU.cons rfl (fun K hK => ?_) ReadyU.nil)
    go_simp
    go_at_call 104
    refine (HIH.out d' fg fr _ _ (g0, g1) (r0, r1, r2, r3, r4, r5) kind (D - 1) _ (by have := HDD.out; omega) (HC.out.gr (Gr.refl _)) (Rd.gr HRG.out (Gr.refl _)) (Rd.gr HRR.out (Gr.refl _)) HBG.out.1 HBG.out.2 HWT.out HS.out hn' HK.out.1 (by omega) (by omega)).mono ?_
    rintro e W8 ⟨es8, fe8, xe8, rfl, hre8, hwe8, hfe8, hc5, hw5⟩
    obtain ⟨u80, u81, u82, u83, u84, u85, u8a, u8l, u8c, rfl⟩ := rdExpr_shape hre8
    have hw5 := ((Gr.refl _) : Gr W7 _).toWr [b] |>.trans hw5
    have HWP8 := Lib.hid hw5
    have HW := Lib.hid (HW.out.trans hw5)
    have HVR := Lib.hid (HVR.out.wr hw5 (by simp; omega))
    have HC := Lib.hid hc5
    clear hc5 hw5
    have hrg : Rd.rd fg _ (#[.slice ag0 g0.length kg0, .slice ag1 g1.length kg1] : Array Value).toList (g0, g1) := Rd.wr (Rd.gr HG.out HG0.out) HW.out (fun c hc hm => HBG.out.1 (by rw [← List.mem_singleton.1 hm]; exact hc))
    have hrr : Rd.rd fr _ (#[.string r0, .string r1, .slice ar2 r2.length kr2, .bool r3, .slice ar4 r4.length kr4, .slice ar5 r5.length kr5] : Array Value).toList (r0, r1, r2, r3, r4, r5) := Rd.wr (Rd.gr HR.out HG0.out) HW.out (fun c hc hm => HBG.out.2 (by rw [← List.mem_singleton.1 hm]; exact hc))
    have HRG := Lib.hid hrg
    have HRR := Lib.hid hrr
    clear hrg hrr
    have HRE8 := Lib.hid hre8
    have HWE8 := Lib.hid hwe8
    have HFE8 := Lib.hid (show ∀ c ∈ fe8, W7.heap.size ≤ c from fun c hc => by have := hfe8 c hc; (try simp at this); omega)
    have hsz8 := HWP8.out.size
    clear hre8 hwe8 hfe8
    refine hK.out _ _ HW.out (fun hU8 => ?_)
    clear hK K
    try simp only [Act.put, uq1, uq2, uq3]
    refine anyU_ready (rs := [23]) (by kernel_rfl) (by simp) ?_
    refine (ReadyU.cons rfl (fun K hK => ?_) ReadyU.nil)
    go_simp
    have hE := ((Els.one (α := GE (d' + 1)) (Rd.wr (Rd.wr HRE6.out HWP7.out (fun c hc hm => by have := HFE6.out c hc; have h2 := List.mem_singleton.1 hm; omega)) HWP8.out (fun c hc hm => by have := HFE6.out c hc; have h2 := List.mem_singleton.1 hm; omega))).app (Els.one (α := GE (d' + 1)) (Rd.wr HRE7.out HWP8.out (fun c hc hm => by have := HFE7.out c hc; have h2 := List.mem_singleton.1 hm; omega)))).app (Els.one (α := GE (d' + 1)) HRE8.out)
    have hO := OwnR.litN (w0 := W8) 157 (Nat.le_refl _) (g := W8.heap.size) rfl hE (cs := #[.int .i64 u60, .int .i64 u61, .int .i64 u62, .int .i64 u63, .string u64, .string u65, .slice u6a u6l u6c, .int .i64 u70, .int .i64 u71, .int .i64 u72, .int .i64 u73, .string u74, .string u75, .slice u7a u7l u7c, .int .i64 u80, .int .i64 u81, .int .i64 u82, .int .i64 u83, .string u84, .string u85, .slice u8a u8l u8c]) rfl (by show 3 ≤ maxLen; decide)
    obtain ⟨fp, hs, hf⟩ := hO.slR (by show 3 ≤ reachLen; decide)
    have hob := hO.base
    generalize hW9 : W8.alloc (.cells #[.int .i64 u60, .int .i64 u61, .int .i64 u62, .int .i64 u63, .string u64, .string u65, .slice u6a u6l u6c, .int .i64 u70, .int .i64 u71, .int .i64 u72, .int .i64 u73, .string u74, .string u75, .slice u7a u7l u7c, .int .i64 u80, .int .i64 u81, .int .i64 u82, .int .i64 u83, .string u84, .string u85, .slice u8a u8l u8c] 157) = W9 at hs ⊢
    have g89 : Gr W8 W9 := by rw [← hW9]; exact gd
    clear hO hE hW9
    have HRE := Lib.hid (rdExpr_mk (d := d' + 1) 5 0 0 0 ⟨#[]⟩ ⟨#[]⟩ _ (by decide) (by decide) (by decide) (by decide) (by decide) (by decide) hs)
    have HVR := Lib.hid (HVR.out.gr g89)
    have HC := Lib.hid (HC.out.gr g89)
    have HW := Lib.hid (HW.out.gr g89)
    have HFE := Lib.hid (show ∀ c ∈ fp, w.heap.size + 2 < c from fun c hc => by
     rcases hf with ⟨h, -⟩ | ⟨g, h1, h2⟩
     ·cases h
     ·rw [h2] at hc
      rcases List.mem_cons.1 hc with h | h
      ·have := (hob g h1).1; omega
      ·have h3 : c ∈ fe6 ∨ c ∈ fe7 ∨ c ∈ fe8 := by simpa using h
       rcases h3 with h | h | h
       ·have := HFE6.out c h; omega
       ·have := HFE7.out c h; omega
       ·have := HFE8.out c h; omega)
    have HWE := Lib.hid (show wtExpr ((5, 0, 0, 0, ⟨#[]⟩, ⟨#[]⟩, [xe6] ++ [xe7] ++ [xe8]) : GExpr (d' + 1)) ≤ 100 * 4 ^ (n + 1) by
     show 0 + 0 + wtL (wtE (d' + 1)) [xe6, xe7, xe8] ≤ _
     have h0 : wtL (wtE (d' + 1)) [xe6, xe7, xe8] = 3 + (wtExpr xe6 + (wtExpr xe7 + (wtExpr xe8 + 0))) := rfl
     rw [h0]
     have h1 := HWE6.out
     have h2 := HWE7.out
     have h3 := HWE8.out
     have h4 := HP.out
     omega)
    clear hs hf hob g89
    have e0 := HVR.out.cell (k := 0) (by simp)
    have e1 := HVR.out.cell (k := 1) (by simp)
    have e2 := HVR.out.cell (k := 2) (by simp)
    have e3 := HVR.out.cell (k := 3) (by simp)
    have e4 := HVR.out.cell (k := 4) (by simp)
    have e5 := HVR.out.cell (k := 5) (by simp)
    have e6 := HVR.out.cell (k := 6) (by simp)
    have f0 := HVR.out.frozen 0
    have f1 := HVR.out.frozen 1
    have f2 := HVR.out.frozen 2
    have f3 := HVR.out.frozen 3
    have f4 := HVR.out.frozen 4
    have f5 := HVR.out.frozen 5
    have f6 := HVR.out.frozen 6
    have ze := blk e0
    refine hK.out _ _ HW.out (fun hU9 => ?_)
    clear hK K
    try simp only [Act.put, uq1, uq2, uq3]
    refine anyU_q 24 ?_
    try simp only [Act.put, uq1, uq2, uq3]
    refine anyU_ready (rs := [25]) (by kernel_rfl) (by simp) ?_
    refine ReadyU.last rfl (fun K hK => ?_)
    go_simp
    refine hK.out _ _ ?_
    clear hK K
    try simp only [Act.put, uq1, uq2, uq3]
    refine anyU_done (by kernel_rfl) ?_ _
    go_wp2_with fail
    clear e0 e1 e2 e3 e4 e5 e6 f0 f1 f2 f3 f4 f5 f6 ze
    clear hU hU6 hU7 hU8 hU9 kk0 kk1 kk2 kk3 kk4 kk5 kk6 kk7
    generalize hF : (((((((W9.setCell ⟨w.heap.size + 1 + 1, 0, none⟩ (.int .i64 5)).setCell ⟨w.heap.size + 1 + 1, 1, none⟩ (.int .i64 0)).setCell ⟨w.heap.size + 1 + 1, 2, none⟩ (.int .i64 0)).setCell ⟨w.heap.size + 1 + 1, 3, none⟩ (.int .i64 0)).setCell ⟨w.heap.size + 1 + 1, 4, none⟩ (.string ⟨#[]⟩)).setCell ⟨w.heap.size + 1 + 1, 5, none⟩ (.string ⟨#[]⟩)).setCell ⟨w.heap.size + 1 + 1, 6, none⟩ (.slice (some ⟨W8.heap.size, 0, none⟩) 3 3)) = WF
    have vF : VRow WF (w.heap.size + 1 + 1) 157 [.int .i64 5, .int .i64 0, .int .i64 0, .int .i64 0, .string ⟨#[]⟩, .string ⟨#[]⟩, .slice (some ⟨W8.heap.size, 0, none⟩) 3 3] := by rw [← hF]; exact (VRow.put7 HVR.out _ _ _ _ _ _ _).gr (Gr.refl _)
    have wF : Wr [b] w WF := by rw [← hF]; exact ((HG0.out.toWr [b]).trans HW.out |>.more2 (Wr.put7 _ _ _ _ _ _ _ _ _) (fun x hx => .inr (by rw [List.mem_singleton.1 hx]; omega))).gr (Gr.refl _)
    have cF : CurR WF b := by rw [← hF]; exact (HC.out.wr (Wr.put7 _ _ _ _ _ _ _ _ _) (fun x hx => by rw [List.mem_singleton.1 hx]; omega)).gr (Gr.refl _)
    have hrF : Rd.rd ([] ++ ([] ++ ([] ++ ([] ++ ([] ++ ([] ++ fp)))))) WF (#[.int .i64 5, .int .i64 0, .int .i64 0, .int .i64 0, .string ⟨#[]⟩, .string ⟨#[]⟩, .slice (some ⟨W8.heap.size, 0, none⟩) 3 3] : Array Value).toList ((5, 0, 0, 0, ⟨#[]⟩, ⟨#[]⟩, [xe6] ++ [xe7] ++ [xe8]) : GExpr (d' + 1)) := by rw [← hF]; exact Rd.gr (Rd.wr HRE.out (Wr.put7 _ _ _ _ _ _ _ _ _) (fun c hc hm => by have := HFE.out c hc; rw [List.mem_singleton.1 hm] at this; omega)) (Gr.refl _)
    have r0' := vF.cell (k := 0) (by simp)
    have r1' := vF.cell (k := 1) (by simp)
    have r2' := vF.cell (k := 2) (by simp)
    have r3' := vF.cell (k := 3) (by simp)
    have r4' := vF.cell (k := 4) (by simp)
    have r5' := vF.cell (k := 5) (by simp)
    have r6' := vF.cell (k := 6) (by simp)
    clear hF vF
    exact bodyPost_ret (v := .agg #[.int .i64 5, .int .i64 0, .int .i64 0, .int .i64 0, .string ⟨#[]⟩, .string ⟨#[]⟩, .slice (some ⟨W8.heap.size, 0, none⟩) 3 3]) (by simp [results, Try.results104, go_sem, r0', r1', r2', r3', r4', r5', r6']) rfl ⟨_, ([] ++ ([] ++ ([] ++ ([] ++ ([] ++ ([] ++ fp)))))), ((5, 0, 0, 0, ⟨#[]⟩, ⟨#[]⟩, [xe6] ++ [xe7] ++ [xe8]) : GExpr (d' + 1)), rfl, hrF, HWE.out, fun c hc => Nat.le_of_lt (Nat.lt_of_le_of_lt (Nat.le_add_right _ 2) (HFE.out c hc)), cF, wF⟩
   | false =>
    by_cases hk4 : kind = 4
    ·have k4 : (kind == 4) = true := by simp [hk4]
     clear hk4
     have y0 := HW.out.keepC HBX.out.1 (by simp; omega)
     have y1 := HW.out.keepC HBX.out.2.1 (by simp; omega)
     have y2 := HW.out.keepC HBX.out.2.2.1 (by simp; omega)
     have y3 := HW.out.keepC HBX.out.2.2.2.1 (by simp; omega)
     have y4 := HW.out.keepC HBX.out.2.2.2.2.1 (by simp; omega)
     have y5 := HW.out.keepC HBX.out.2.2.2.2.2.1 (by simp; omega)
     have y6 := HW.out.keepC HBX.out.2.2.2.2.2.2.1 (by simp; omega)
     have y7 := HW.out.keepC HBX.out.2.2.2.2.2.2.2 (by simp; omega)
     have zy0 := blk y0
     have zy2 := blk y2
     have sW := HW.out.size
     have hrg : Rd.rd fg _ (#[.slice ag0 g0.length kg0, .slice ag1 g1.length kg1] : Array Value).toList (g0, g1) := Rd.wr (Rd.gr HG.out HG0.out) HW.out (fun c hc hm => HBG.out.1 (by rw [← List.mem_singleton.1 hm]; exact hc))
     have hrr : Rd.rd fr _ (#[.string r0, .string r1, .slice ar2 r2.length kr2, .bool r3, .slice ar4 r4.length kr4, .slice ar5 r5.length kr5] : Array Value).toList (r0, r1, r2, r3, r4, r5) := Rd.wr (Rd.gr HR.out HG0.out) HW.out (fun c hc hm => HBG.out.2 (by rw [← List.mem_singleton.1 hm]; exact hc))
     have HRG := Lib.hid hrg
     have HRR := Lib.hid hrr
     clear hrg hrr
     go_wp2_with fail
     refine (l10Of_any (g0, g1) (r0, r1, r2, r3, r4, r5) kind _ HRG.out HRR.out HWT.out HS.out hn').mono ?_
     rintro e w' ⟨v, fo, os, rfl, hso, hlo, hno, hfo, x6, rfl⟩
     obtain ⟨ao, ko, rfl, -, -, -⟩ := hso.open
     have HSO := Lib.hid hso
     have HNO := Lib.hid hno
     have hbo : b ∉ fo := fun hm => by have := hfo b hm; omega
     have HW := Lib.hid (HW.out.gr (Gr.ext (Gr.refl _) x6))
     have HVR := Lib.hid (HVR.out.gr (Gr.ext (Gr.refl _) x6))
     have HC := Lib.hid (HC.out.gr (Gr.ext (Gr.refl _) x6))
     clear hso hno hfo
     clear y0 y1 y2 y3 y4 y5 y6 y7 zy0 zy2
     go_wp2_with fail
     refine (l4Leaf_any (d' + 1) b kind fo _ os _ HC.out HSO.out hbo (by omega) HNO.out HK.out.2).mono ?_
     rintro e W6 ⟨es, fe, xe, rfl, hre, hwe, hfe, hc5, hw5⟩
     obtain ⟨u0, u1, u2, u3, u4, u5, ua, ul, uc, rfl⟩ := rdExpr_shape hre
     have HW := Lib.hid (HW.out.trans hw5)
     have HVR := Lib.hid (HVR.out.wr hw5 (by simp; omega))
     have HC := Lib.hid hc5
     clear hc5 hw5
     have HRE := Lib.hid hre
     have hsz6 := HVR.out.lt
     have HFE := Lib.hid (show ∀ c ∈ fe, w.heap.size + 2 < c from fun c hc => by have := hfe c hc; simp at this; omega)
     have HWE := Lib.hid hwe
     clear hre hfe hwe
     have e0 := HVR.out.cell (k := 0) (by simp)
     have e1 := HVR.out.cell (k := 1) (by simp)
     have e2 := HVR.out.cell (k := 2) (by simp)
     have e3 := HVR.out.cell (k := 3) (by simp)
     have e4 := HVR.out.cell (k := 4) (by simp)
     have e5 := HVR.out.cell (k := 5) (by simp)
     have e6 := HVR.out.cell (k := 6) (by simp)
     have f0 := HVR.out.frozen 0
     have f1 := HVR.out.frozen 1
     have f2 := HVR.out.frozen 2
     have f3 := HVR.out.frozen 3
     have f4 := HVR.out.frozen 4
     have f5 := HVR.out.frozen 5
     have f6 := HVR.out.frozen 6
     have ze := blk e0
     go_wp2_with fail
     clear e0 e1 e2 e3 e4 e5 e6 f0 f1 f2 f3 f4 f5 f6 ze
     generalize hF : (((((((W6.setCell ⟨w.heap.size + 1 + 1, 0, none⟩ (.int .i64 u0)).setCell ⟨w.heap.size + 1 + 1, 1, none⟩ (.int .i64 u1)).setCell ⟨w.heap.size + 1 + 1, 2, none⟩ (.int .i64 u2)).setCell ⟨w.heap.size + 1 + 1, 3, none⟩ (.int .i64 u3)).setCell ⟨w.heap.size + 1 + 1, 4, none⟩ (.string u4)).setCell ⟨w.heap.size + 1 + 1, 5, none⟩ (.string u5)).setCell ⟨w.heap.size + 1 + 1, 6, none⟩ (.slice ua ul uc)) = WF
     have vF : VRow WF (w.heap.size + 1 + 1) 157 [.int .i64 u0, .int .i64 u1, .int .i64 u2, .int .i64 u3, .string u4, .string u5, .slice ua ul uc] := by rw [← hF]; exact (VRow.put7 HVR.out _ _ _ _ _ _ _).gr (Gr.refl _)
     have wF : Wr [b] w WF := by rw [← hF]; exact ((HG0.out.toWr [b]).trans HW.out |>.more2 (Wr.put7 _ _ _ _ _ _ _ _ _) (fun x hx => .inr (by rw [List.mem_singleton.1 hx]; omega))).gr (Gr.refl _)
     have cF : CurR WF b := by rw [← hF]; exact (HC.out.wr (Wr.put7 _ _ _ _ _ _ _ _ _) (fun x hx => by rw [List.mem_singleton.1 hx]; omega)).gr (Gr.refl _)
     have hrF : Rd.rd fe WF (#[.int .i64 u0, .int .i64 u1, .int .i64 u2, .int .i64 u3, .string u4, .string u5, .slice ua ul uc] : Array Value).toList xe := by rw [← hF]; exact Rd.gr (Rd.wr HRE.out (Wr.put7 _ _ _ _ _ _ _ _ _) (fun c hc hm => by have := HFE.out c hc; rw [List.mem_singleton.1 hm] at this; omega)) (Gr.refl _)
     have r0' := vF.cell (k := 0) (by simp)
     have r1' := vF.cell (k := 1) (by simp)
     have r2' := vF.cell (k := 2) (by simp)
     have r3' := vF.cell (k := 3) (by simp)
     have r4' := vF.cell (k := 4) (by simp)
     have r5' := vF.cell (k := 5) (by simp)
     have r6' := vF.cell (k := 6) (by simp)
     clear hF vF
     exact bodyPost_ret (v := .agg #[.int .i64 u0, .int .i64 u1, .int .i64 u2, .int .i64 u3, .string u4, .string u5, .slice ua ul uc]) (by simp [results, Try.results104, go_sem, r0', r1', r2', r3', r4', r5', r6']) rfl ⟨_, fe, xe, rfl, hrF, Nat.le_trans HWE.out HPOW.out, fun c hc => Nat.le_of_lt (Nat.lt_of_le_of_lt (Nat.le_add_right _ 2) (HFE.out c hc)), cF, wF⟩
    ·have n4 : (kind == 4) = false := by simpa using hk4
     by_cases hk1 : kind = 1
     ·have k1 : (kind == 1) = true := by simp [hk1]
      go_wp2_with fail
      obtain ⟨fl, hl1, hl2⟩ := SlR.litI 3 (w := W2) rfl [1, 1, 2, 3, 4, 5] rfl rfl (by decide) (by decide)
      refine (l1PickInt_any b fl _ [1, 1, 2, 3, 4, 5] _ (HC.out.gr (Gr.alloc (Gr.refl _) _)) hl1 (fun hm => by have := hl2 b hm; have := HC.out.lt; omega) (by decide) (by decide)).mono ?_
      rintro e W3 ⟨op, hop, rfl, hc5, hw5⟩
      have hs23 := hw5.size
      simp at hs23
      have hop2 : 0 ≤ op ∧ op ≤ 12 := by simp at hop; omega
      have hopw : (Lit.int .i64 op).wf = true := wf_small hop2.1 (by omega)
      have hw5 := ((Gr.alloc (Gr.refl W2) _).toWr [b]).trans hw5
      have HW := Lib.hid (HW.out.trans hw5)
      have HVR := Lib.hid (HVR.out.wr hw5 (by simp; omega))
      have HC := Lib.hid hc5
      clear hc5 hw5
      have HOPW := Lib.hid hopw
      clear hop hop2 hl1 hl2 hopw
      have hs03 := HW.out.size
      go_wp2_with fail
      refine (operandTypes_some op _).mono ?_
      rintro e w' ⟨ta, tb, tc, rfl, ha0, ha1, hb0, hb1, rfl⟩
      have hrg : Rd.rd fg _ (#[.slice ag0 g0.length kg0, .slice ag1 g1.length kg1] : Array Value).toList (g0, g1) := Rd.wr (Rd.gr HG.out HG0.out) HW.out (fun c hc hm => HBG.out.1 (by rw [← List.mem_singleton.1 hm]; exact hc))
      have hrr : Rd.rd fr _ (#[.string r0, .string r1, .slice ar2 r2.length kr2, .bool r3, .slice ar4 r4.length kr4, .slice ar5 r5.length kr5] : Array Value).toList (r0, r1, r2, r3, r4, r5) := Rd.wr (Rd.gr HR.out HG0.out) HW.out (fun c hc hm => HBG.out.2 (by rw [← List.mem_singleton.1 hm]; exact hc))
      have HRG := Lib.hid hrg
      have HRR := Lib.hid hrr
      clear hrg hrr
      have kk0 := fun (w' : World) (h : Wr [b] W0 w') => h.keepC HBX.out.1 (by simp; omega)
      have kk1 := fun (w' : World) (h : Wr [b] W0 w') => h.keepC HBX.out.2.1 (by simp; omega)
      have kk2 := fun (w' : World) (h : Wr [b] W0 w') => h.keepC HBX.out.2.2.1 (by simp; omega)
      have kk3 := fun (w' : World) (h : Wr [b] W0 w') => h.keepC HBX.out.2.2.2.1 (by simp; omega)
      have kk4 := fun (w' : World) (h : Wr [b] W0 w') => h.keepC HBX.out.2.2.2.2.1 (by simp; omega)
      have kk5 := fun (w' : World) (h : Wr [b] W0 w') => h.keepC HBX.out.2.2.2.2.2.1 (by simp; omega)
      have kk6 := fun (w' : World) (h : Wr [b] W0 w') => h.keepC HBX.out.2.2.2.2.2.2.1 (by simp; omega)
      have kk7 := fun (w' : World) (h : Wr [b] W0 w') => h.keepC HBX.out.2.2.2.2.2.2.2 (by simp; omega)
      go_wp2_with fail
      refine wp_region_U (fun w' => Wr [b] W0 w') 18 (by kernel_rfl) (HW.out.gr (Gr.drew (Gr.refl _))) (fun hU => ?_)
      refine anyU_q 0 ?_
      try simp only [Act.put, uq1, uq2, uq3]
      refine anyU_q 1 ?_
      try simp only [Act.put, uq1, uq2, uq3]
      refine anyU_q 2 ?_
      try simp only [Act.put, uq1, uq2, uq3]
      refine anyU_q 3 ?_
      try simp only [Act.put, uq1, uq2, uq3]
      refine anyU_q 4 ?_
      try simp only [Act.put, uq1, uq2, uq3]
      refine anyU_q 5 ?_
      try simp only [Act.put, uq1, uq2, uq3]
      refine anyU_q 7 ?_
      try simp only [Act.put, uq1, uq2, uq3]
      refine anyU_q 9 ?_
      try simp only [Act.put, uq1, uq2, uq3]
      refine anyU_q 10 ?_
      try simp only [Act.put, uq1, uq2, uq3]
      refine anyU_q 11 ?_
      try simp only [Act.put, uq1, uq2, uq3]
      refine anyU_q 12 ?_
      try simp only [Act.put, uq1, uq2, uq3]
      refine anyU_q 13 ?_
      try simp only [Act.put, uq1, uq2, uq3]
      refine anyU_q 15 ?_
      try simp only [Act.put, uq1, uq2, uq3]
      refine anyU_q 6 ?_
      try simp only [Act.put, uq1, uq2, uq3]
      refine anyU_q 14 ?_
      try simp only [Act.put, uq1, uq2, uq3]
      refine anyU_ready (rs := [8]) (by kernel_rfl) (by simp) ?_
      refine (ReadyU.cons rfl (fun K hK => ?_) ReadyU.nil)
      go_simp
      go_at_call 104
      refine (HIH.out d' fg fr _ _ (g0, g1) (r0, r1, r2, r3, r4, r5) ta (D - 1) _ (by have := HDD.out; omega) (HC.out.gr (Gr.drew (Gr.refl _))) (Rd.gr HRG.out (Gr.drew (Gr.refl _))) (Rd.gr HRR.out (Gr.drew (Gr.refl _))) HBG.out.1 HBG.out.2 HWT.out HS.out hn' ⟨ha0, by omega⟩ (by omega) (by omega)).mono ?_
      rintro e W8 ⟨es8, fe8, xe8, rfl, hre8, hwe8, hfe8, hc5, hw5⟩
      obtain ⟨u80, u81, u82, u83, u84, u85, u8a, u8l, u8c, rfl⟩ := rdExpr_shape hre8
      have hw5 := ((Gr.drew (Gr.refl _)) : Gr W3 _).toWr [b] |>.trans hw5
      have HWP8 := Lib.hid hw5
      have HW := Lib.hid (HW.out.trans hw5)
      have HVR := Lib.hid (HVR.out.wr hw5 (by simp; omega))
      have HC := Lib.hid hc5
      clear hc5 hw5
      have hrg : Rd.rd fg _ (#[.slice ag0 g0.length kg0, .slice ag1 g1.length kg1] : Array Value).toList (g0, g1) := Rd.wr (Rd.gr HG.out HG0.out) HW.out (fun c hc hm => HBG.out.1 (by rw [← List.mem_singleton.1 hm]; exact hc))
      have hrr : Rd.rd fr _ (#[.string r0, .string r1, .slice ar2 r2.length kr2, .bool r3, .slice ar4 r4.length kr4, .slice ar5 r5.length kr5] : Array Value).toList (r0, r1, r2, r3, r4, r5) := Rd.wr (Rd.gr HR.out HG0.out) HW.out (fun c hc hm => HBG.out.2 (by rw [← List.mem_singleton.1 hm]; exact hc))
      have HRG := Lib.hid hrg
      have HRR := Lib.hid hrr
      clear hrg hrr
      have HRE8 := Lib.hid hre8
      have HWE8 := Lib.hid hwe8
      have HFE8 := Lib.hid (show ∀ c ∈ fe8, W3.heap.size ≤ c from fun c hc => by have := hfe8 c hc; (try simp at this); omega)
      have hsz8 := HWP8.out.size
      clear hre8 hwe8 hfe8
      refine hK.out _ _ HW.out (fun hU8 => ?_)
      clear hK K
      try simp only [Act.put, uq1, uq2, uq3]
      refine anyU_ready (rs := [16]) (by kernel_rfl) (by simp) ?_
      refine (ReadyU.cons rfl (fun K hK => ?_) ReadyU.nil)
      go_simp
      go_at_call 104
      refine (HIH.out d' fg fr _ _ (g0, g1) (r0, r1, r2, r3, r4, r5) tb (D - 1) _ (by have := HDD.out; omega) (HC.out.gr (Gr.refl _)) (Rd.gr HRG.out (Gr.refl _)) (Rd.gr HRR.out (Gr.refl _)) HBG.out.1 HBG.out.2 HWT.out HS.out hn' ⟨hb0, by omega⟩ (by omega) (by omega)).mono ?_
      rintro e W9 ⟨es9, fe9, xe9, rfl, hre9, hwe9, hfe9, hc5, hw5⟩
      obtain ⟨u90, u91, u92, u93, u94, u95, u9a, u9l, u9c, rfl⟩ := rdExpr_shape hre9
      have hw5 := ((Gr.refl _) : Gr W8 _).toWr [b] |>.trans hw5
      have HWP9 := Lib.hid hw5
      have HW := Lib.hid (HW.out.trans hw5)
      have HVR := Lib.hid (HVR.out.wr hw5 (by simp; omega))
      have HC := Lib.hid hc5
      clear hc5 hw5
      have hrg : Rd.rd fg _ (#[.slice ag0 g0.length kg0, .slice ag1 g1.length kg1] : Array Value).toList (g0, g1) := Rd.wr (Rd.gr HG.out HG0.out) HW.out (fun c hc hm => HBG.out.1 (by rw [← List.mem_singleton.1 hm]; exact hc))
      have hrr : Rd.rd fr _ (#[.string r0, .string r1, .slice ar2 r2.length kr2, .bool r3, .slice ar4 r4.length kr4, .slice ar5 r5.length kr5] : Array Value).toList (r0, r1, r2, r3, r4, r5) := Rd.wr (Rd.gr HR.out HG0.out) HW.out (fun c hc hm => HBG.out.2 (by rw [← List.mem_singleton.1 hm]; exact hc))
      have HRG := Lib.hid hrg
      have HRR := Lib.hid hrr
      clear hrg hrr
      have HRE9 := Lib.hid hre9
      have HWE9 := Lib.hid hwe9
      have HFE9 := Lib.hid (show ∀ c ∈ fe9, W8.heap.size ≤ c from fun c hc => by have := hfe9 c hc; (try simp at this); omega)
      have hsz9 := HWP9.out.size
      clear hre9 hwe9 hfe9
      refine hK.out _ _ HW.out (fun hU9 => ?_)
      clear hK K
      try simp only [Act.put, uq1, uq2, uq3]
      refine anyU_ready (rs := [17]) (by kernel_rfl) (by simp) ?_
      refine (ReadyU.cons rfl (fun K hK => ?_) ReadyU.nil)
      go_simp
      go_at_call 111
      refine (l4Op_any op xe8 xe9 _ HOPW.out (Rd.wr HRE8.out HWP9.out (fun c hc hm => by have := HFE8.out c hc; have h2 := List.mem_singleton.1 hm; omega)) HRE9.out).mono ?_
      rintro e W10 ⟨es, fe, xe, rfl, hre, hwe, hfe, g10⟩
      obtain ⟨u0, u1, u2, u3, u4, u5, ua, ul, uc, rfl⟩ := rdExpr_shape hre
      have HVR := Lib.hid (HVR.out.gr g10)
      have HC := Lib.hid (HC.out.gr g10)
      have HFE := Lib.hid (show ∀ c ∈ fe, w.heap.size + 2 < c from fun c hc => by
       rcases hfe c hc with h | h | h
       ·have := HFE8.out c h; omega
       ·have := HFE9.out c h; omega
       ·omega)
      have HRE := Lib.hid hre
      have HWE := Lib.hid (show wtExpr xe ≤ 100 * 4 ^ (n + 1) by
       have h1 := HWE8.out
       have h2 := HWE9.out
       have h3 := HP.out
       omega)
      have HW := Lib.hid (HW.out.gr g10)
      clear hre hwe hfe g10
      have e0 := HVR.out.cell (k := 0) (by simp)
      have e1 := HVR.out.cell (k := 1) (by simp)
      have e2 := HVR.out.cell (k := 2) (by simp)
      have e3 := HVR.out.cell (k := 3) (by simp)
      have e4 := HVR.out.cell (k := 4) (by simp)
      have e5 := HVR.out.cell (k := 5) (by simp)
      have e6 := HVR.out.cell (k := 6) (by simp)
      have f0 := HVR.out.frozen 0
      have f1 := HVR.out.frozen 1
      have f2 := HVR.out.frozen 2
      have f3 := HVR.out.frozen 3
      have f4 := HVR.out.frozen 4
      have f5 := HVR.out.frozen 5
      have f6 := HVR.out.frozen 6
      have ze := blk e0
      refine hK.out _ _ HW.out (fun hU9 => ?_)
      clear hK K
      try simp only [Act.put, uq1, uq2, uq3]
      refine anyU_ready (rs := [18]) (by kernel_rfl) (by simp) ?_
      refine ReadyU.last rfl (fun K hK => ?_)
      go_simp
      refine hK.out _ _ ?_
      clear hK K
      try simp only [Act.put, uq1, uq2, uq3]
      refine anyU_done (by kernel_rfl) ?_ _
      go_wp2_with fail
      clear e0 e1 e2 e3 e4 e5 e6 f0 f1 f2 f3 f4 f5 f6 ze
      clear hU hU8 hU9 kk0 kk1 kk2 kk3 kk4 kk5 kk6 kk7
      generalize hF : (((((((W10.setCell ⟨w.heap.size + 1 + 1, 0, none⟩ (.int .i64 u0)).setCell ⟨w.heap.size + 1 + 1, 1, none⟩ (.int .i64 u1)).setCell ⟨w.heap.size + 1 + 1, 2, none⟩ (.int .i64 u2)).setCell ⟨w.heap.size + 1 + 1, 3, none⟩ (.int .i64 u3)).setCell ⟨w.heap.size + 1 + 1, 4, none⟩ (.string u4)).setCell ⟨w.heap.size + 1 + 1, 5, none⟩ (.string u5)).setCell ⟨w.heap.size + 1 + 1, 6, none⟩ (.slice ua ul uc)) = WF
      have vF : VRow WF (w.heap.size + 1 + 1) 157 [.int .i64 u0, .int .i64 u1, .int .i64 u2, .int .i64 u3, .string u4, .string u5, .slice ua ul uc] := by rw [← hF]; exact (VRow.put7 HVR.out _ _ _ _ _ _ _).gr (Gr.refl _)
      have wF : Wr [b] w WF := by rw [← hF]; exact ((HG0.out.toWr [b]).trans HW.out |>.more2 (Wr.put7 _ _ _ _ _ _ _ _ _) (fun x hx => .inr (by rw [List.mem_singleton.1 hx]; omega))).gr (Gr.refl _)
      have cF : CurR WF b := by rw [← hF]; exact (HC.out.wr (Wr.put7 _ _ _ _ _ _ _ _ _) (fun x hx => by rw [List.mem_singleton.1 hx]; omega)).gr (Gr.refl _)
      have hrF : Rd.rd fe WF (#[.int .i64 u0, .int .i64 u1, .int .i64 u2, .int .i64 u3, .string u4, .string u5, .slice ua ul uc] : Array Value).toList xe := by rw [← hF]; exact Rd.gr (Rd.wr HRE.out (Wr.put7 _ _ _ _ _ _ _ _ _) (fun c hc hm => by have := HFE.out c hc; rw [List.mem_singleton.1 hm] at this; omega)) (Gr.refl _)
      have r0' := vF.cell (k := 0) (by simp)
      have r1' := vF.cell (k := 1) (by simp)
      have r2' := vF.cell (k := 2) (by simp)
      have r3' := vF.cell (k := 3) (by simp)
      have r4' := vF.cell (k := 4) (by simp)
      have r5' := vF.cell (k := 5) (by simp)
      have r6' := vF.cell (k := 6) (by simp)
      clear hF vF
      exact bodyPost_ret (v := .agg #[.int .i64 u0, .int .i64 u1, .int .i64 u2, .int .i64 u3, .string u4, .string u5, .slice ua ul uc]) (by simp [results, Try.results104, go_sem, r0', r1', r2', r3', r4', r5', r6']) rfl ⟨_, fe, xe, rfl, hrF, HWE.out, fun c hc => Nat.le_of_lt (Nat.lt_of_le_of_lt (Nat.le_add_right _ 2) (HFE.out c hc)), cF, wF⟩
     ·have n1 : (kind == 1) = false := by simpa using hk1
      by_cases hk2 : kind = 2
      ·have k2 : (kind == 2) = true := by simp [hk2]
       go_wp2_with fail
       obtain ⟨fl, hl1, hl2⟩ := SlR.litI 3 (w := W2) rfl [6, 6, 7, 8, 12] rfl rfl (by decide) (by decide)
       refine (l1PickInt_any b fl _ [6, 6, 7, 8, 12] _ (HC.out.gr (Gr.alloc (Gr.refl _) _)) hl1 (fun hm => by have := hl2 b hm; have := HC.out.lt; omega) (by decide) (by decide)).mono ?_
       rintro e W3 ⟨op, hop, rfl, hc5, hw5⟩
       have hs23 := hw5.size
       simp at hs23
       have hop2 : 0 ≤ op ∧ op ≤ 12 := by simp at hop; omega
       have hopw : (Lit.int .i64 op).wf = true := wf_small hop2.1 (by omega)
       have hw5 := ((Gr.alloc (Gr.refl W2) _).toWr [b]).trans hw5
       have HW := Lib.hid (HW.out.trans hw5)
       have HVR := Lib.hid (HVR.out.wr hw5 (by simp; omega))
       have HC := Lib.hid hc5
       clear hc5 hw5
       have HOPW := Lib.hid hopw
       clear hop hop2 hl1 hl2 hopw
       have hs03 := HW.out.size
       go_wp2_with fail
       refine (operandTypes_some op _).mono ?_
       rintro e w' ⟨ta, tb, tc, rfl, ha0, ha1, hb0, hb1, rfl⟩
       have hrg : Rd.rd fg _ (#[.slice ag0 g0.length kg0, .slice ag1 g1.length kg1] : Array Value).toList (g0, g1) := Rd.wr (Rd.gr HG.out HG0.out) HW.out (fun c hc hm => HBG.out.1 (by rw [← List.mem_singleton.1 hm]; exact hc))
       have hrr : Rd.rd fr _ (#[.string r0, .string r1, .slice ar2 r2.length kr2, .bool r3, .slice ar4 r4.length kr4, .slice ar5 r5.length kr5] : Array Value).toList (r0, r1, r2, r3, r4, r5) := Rd.wr (Rd.gr HR.out HG0.out) HW.out (fun c hc hm => HBG.out.2 (by rw [← List.mem_singleton.1 hm]; exact hc))
       have HRG := Lib.hid hrg
       have HRR := Lib.hid hrr
       clear hrg hrr
       have kk0 := fun (w' : World) (h : Wr [b] W0 w') => h.keepC HBX.out.1 (by simp; omega)
       have kk1 := fun (w' : World) (h : Wr [b] W0 w') => h.keepC HBX.out.2.1 (by simp; omega)
       have kk2 := fun (w' : World) (h : Wr [b] W0 w') => h.keepC HBX.out.2.2.1 (by simp; omega)
       have kk3 := fun (w' : World) (h : Wr [b] W0 w') => h.keepC HBX.out.2.2.2.1 (by simp; omega)
       have kk4 := fun (w' : World) (h : Wr [b] W0 w') => h.keepC HBX.out.2.2.2.2.1 (by simp; omega)
       have kk5 := fun (w' : World) (h : Wr [b] W0 w') => h.keepC HBX.out.2.2.2.2.2.1 (by simp; omega)
       have kk6 := fun (w' : World) (h : Wr [b] W0 w') => h.keepC HBX.out.2.2.2.2.2.2.1 (by simp; omega)
       have kk7 := fun (w' : World) (h : Wr [b] W0 w') => h.keepC HBX.out.2.2.2.2.2.2.2 (by simp; omega)
       go_wp2_with fail
       refine wp_region_U (fun w' => Wr [b] W0 w') 18 (by kernel_rfl) (HW.out.gr (Gr.drew (Gr.refl _))) (fun hU => ?_)
       refine anyU_q 0 ?_
       try simp only [Act.put, uq1, uq2, uq3]
       refine anyU_q 1 ?_
       try simp only [Act.put, uq1, uq2, uq3]
       refine anyU_q 2 ?_
       try simp only [Act.put, uq1, uq2, uq3]
       refine anyU_q 3 ?_
       try simp only [Act.put, uq1, uq2, uq3]
       refine anyU_q 4 ?_
       try simp only [Act.put, uq1, uq2, uq3]
       refine anyU_q 5 ?_
       try simp only [Act.put, uq1, uq2, uq3]
       refine anyU_q 7 ?_
       try simp only [Act.put, uq1, uq2, uq3]
       refine anyU_q 9 ?_
       try simp only [Act.put, uq1, uq2, uq3]
       refine anyU_q 10 ?_
       try simp only [Act.put, uq1, uq2, uq3]
       refine anyU_q 11 ?_
       try simp only [Act.put, uq1, uq2, uq3]
       refine anyU_q 12 ?_
       try simp only [Act.put, uq1, uq2, uq3]
       refine anyU_q 13 ?_
       try simp only [Act.put, uq1, uq2, uq3]
       refine anyU_q 15 ?_
       try simp only [Act.put, uq1, uq2, uq3]
       refine anyU_q 6 ?_
       try simp only [Act.put, uq1, uq2, uq3]
       refine anyU_q 14 ?_
       try simp only [Act.put, uq1, uq2, uq3]
       refine anyU_ready (rs := [8]) (by kernel_rfl) (by simp) ?_
       refine (ReadyU.cons rfl (fun K hK => ?_) ReadyU.nil)
       go_simp
       go_at_call 104
       refine (HIH.out d' fg fr _ _ (g0, g1) (r0, r1, r2, r3, r4, r5) ta (D - 1) _ (by have := HDD.out; omega) (HC.out.gr (Gr.drew (Gr.refl _))) (Rd.gr HRG.out (Gr.drew (Gr.refl _))) (Rd.gr HRR.out (Gr.drew (Gr.refl _))) HBG.out.1 HBG.out.2 HWT.out HS.out hn' ⟨ha0, by omega⟩ (by omega) (by omega)).mono ?_
       rintro e W8 ⟨es8, fe8, xe8, rfl, hre8, hwe8, hfe8, hc5, hw5⟩
       obtain ⟨u80, u81, u82, u83, u84, u85, u8a, u8l, u8c, rfl⟩ := rdExpr_shape hre8
       have hw5 := ((Gr.drew (Gr.refl _)) : Gr W3 _).toWr [b] |>.trans hw5
       have HWP8 := Lib.hid hw5
       have HW := Lib.hid (HW.out.trans hw5)
       have HVR := Lib.hid (HVR.out.wr hw5 (by simp; omega))
       have HC := Lib.hid hc5
       clear hc5 hw5
       have hrg : Rd.rd fg _ (#[.slice ag0 g0.length kg0, .slice ag1 g1.length kg1] : Array Value).toList (g0, g1) := Rd.wr (Rd.gr HG.out HG0.out) HW.out (fun c hc hm => HBG.out.1 (by rw [← List.mem_singleton.1 hm]; exact hc))
       have hrr : Rd.rd fr _ (#[.string r0, .string r1, .slice ar2 r2.length kr2, .bool r3, .slice ar4 r4.length kr4, .slice ar5 r5.length kr5] : Array Value).toList (r0, r1, r2, r3, r4, r5) := Rd.wr (Rd.gr HR.out HG0.out) HW.out (fun c hc hm => HBG.out.2 (by rw [← List.mem_singleton.1 hm]; exact hc))
       have HRG := Lib.hid hrg
       have HRR := Lib.hid hrr
       clear hrg hrr
       have HRE8 := Lib.hid hre8
       have HWE8 := Lib.hid hwe8
       have HFE8 := Lib.hid (show ∀ c ∈ fe8, W3.heap.size ≤ c from fun c hc => by have := hfe8 c hc; (try simp at this); omega)
       have hsz8 := HWP8.out.size
       clear hre8 hwe8 hfe8
       refine hK.out _ _ HW.out (fun hU8 => ?_)
       clear hK K
       try simp only [Act.put, uq1, uq2, uq3]
       refine anyU_ready (rs := [16]) (by kernel_rfl) (by simp) ?_
       refine (ReadyU.cons rfl (fun K hK => ?_) ReadyU.nil)
       go_simp
       go_at_call 104
       refine (HIH.out d' fg fr _ _ (g0, g1) (r0, r1, r2, r3, r4, r5) tb (D - 1) _ (by have := HDD.out; omega) (HC.out.gr (Gr.refl _)) (Rd.gr HRG.out (Gr.refl _)) (Rd.gr HRR.out (Gr.refl _)) HBG.out.1 HBG.out.2 HWT.out HS.out hn' ⟨hb0, by omega⟩ (by omega) (by omega)).mono ?_
       rintro e W9 ⟨es9, fe9, xe9, rfl, hre9, hwe9, hfe9, hc5, hw5⟩
       obtain ⟨u90, u91, u92, u93, u94, u95, u9a, u9l, u9c, rfl⟩ := rdExpr_shape hre9
       have hw5 := ((Gr.refl _) : Gr W8 _).toWr [b] |>.trans hw5
       have HWP9 := Lib.hid hw5
       have HW := Lib.hid (HW.out.trans hw5)
       have HVR := Lib.hid (HVR.out.wr hw5 (by simp; omega))
       have HC := Lib.hid hc5
       clear hc5 hw5
       have hrg : Rd.rd fg _ (#[.slice ag0 g0.length kg0, .slice ag1 g1.length kg1] : Array Value).toList (g0, g1) := Rd.wr (Rd.gr HG.out HG0.out) HW.out (fun c hc hm => HBG.out.1 (by rw [← List.mem_singleton.1 hm]; exact hc))
       have hrr : Rd.rd fr _ (#[.string r0, .string r1, .slice ar2 r2.length kr2, .bool r3, .slice ar4 r4.length kr4, .slice ar5 r5.length kr5] : Array Value).toList (r0, r1, r2, r3, r4, r5) := Rd.wr (Rd.gr HR.out HG0.out) HW.out (fun c hc hm => HBG.out.2 (by rw [← List.mem_singleton.1 hm]; exact hc))
       have HRG := Lib.hid hrg
       have HRR := Lib.hid hrr
       clear hrg hrr
       have HRE9 := Lib.hid hre9
       have HWE9 := Lib.hid hwe9
       have HFE9 := Lib.hid (show ∀ c ∈ fe9, W8.heap.size ≤ c from fun c hc => by have := hfe9 c hc; (try simp at this); omega)
       have hsz9 := HWP9.out.size
       clear hre9 hwe9 hfe9
       refine hK.out _ _ HW.out (fun hU9 => ?_)
       clear hK K
       try simp only [Act.put, uq1, uq2, uq3]
       refine anyU_ready (rs := [17]) (by kernel_rfl) (by simp) ?_
       refine (ReadyU.cons rfl (fun K hK => ?_) ReadyU.nil)
       go_simp
       go_at_call 111
       refine (l4Op_any op xe8 xe9 _ HOPW.out (Rd.wr HRE8.out HWP9.out (fun c hc hm => by have := HFE8.out c hc; have h2 := List.mem_singleton.1 hm; omega)) HRE9.out).mono ?_
       rintro e W10 ⟨es, fe, xe, rfl, hre, hwe, hfe, g10⟩
       obtain ⟨u0, u1, u2, u3, u4, u5, ua, ul, uc, rfl⟩ := rdExpr_shape hre
       have HVR := Lib.hid (HVR.out.gr g10)
       have HC := Lib.hid (HC.out.gr g10)
       have HFE := Lib.hid (show ∀ c ∈ fe, w.heap.size + 2 < c from fun c hc => by
        rcases hfe c hc with h | h | h
        ·have := HFE8.out c h; omega
        ·have := HFE9.out c h; omega
        ·omega)
       have HRE := Lib.hid hre
       have HWE := Lib.hid (show wtExpr xe ≤ 100 * 4 ^ (n + 1) by
        have h1 := HWE8.out
        have h2 := HWE9.out
        have h3 := HP.out
        omega)
       have HW := Lib.hid (HW.out.gr g10)
       clear hre hwe hfe g10
       have e0 := HVR.out.cell (k := 0) (by simp)
       have e1 := HVR.out.cell (k := 1) (by simp)
       have e2 := HVR.out.cell (k := 2) (by simp)
       have e3 := HVR.out.cell (k := 3) (by simp)
       have e4 := HVR.out.cell (k := 4) (by simp)
       have e5 := HVR.out.cell (k := 5) (by simp)
       have e6 := HVR.out.cell (k := 6) (by simp)
       have f0 := HVR.out.frozen 0
       have f1 := HVR.out.frozen 1
       have f2 := HVR.out.frozen 2
       have f3 := HVR.out.frozen 3
       have f4 := HVR.out.frozen 4
       have f5 := HVR.out.frozen 5
       have f6 := HVR.out.frozen 6
       have ze := blk e0
       refine hK.out _ _ HW.out (fun hU9 => ?_)
       clear hK K
       try simp only [Act.put, uq1, uq2, uq3]
       refine anyU_ready (rs := [18]) (by kernel_rfl) (by simp) ?_
       refine ReadyU.last rfl (fun K hK => ?_)
       go_simp
       refine hK.out _ _ ?_
       clear hK K
       try simp only [Act.put, uq1, uq2, uq3]
       refine anyU_done (by kernel_rfl) ?_ _
       go_wp2_with fail
       clear e0 e1 e2 e3 e4 e5 e6 f0 f1 f2 f3 f4 f5 f6 ze
       clear hU hU8 hU9 kk0 kk1 kk2 kk3 kk4 kk5 kk6 kk7
       generalize hF : (((((((W10.setCell ⟨w.heap.size + 1 + 1, 0, none⟩ (.int .i64 u0)).setCell ⟨w.heap.size + 1 + 1, 1, none⟩ (.int .i64 u1)).setCell ⟨w.heap.size + 1 + 1, 2, none⟩ (.int .i64 u2)).setCell ⟨w.heap.size + 1 + 1, 3, none⟩ (.int .i64 u3)).setCell ⟨w.heap.size + 1 + 1, 4, none⟩ (.string u4)).setCell ⟨w.heap.size + 1 + 1, 5, none⟩ (.string u5)).setCell ⟨w.heap.size + 1 + 1, 6, none⟩ (.slice ua ul uc)) = WF
       have vF : VRow WF (w.heap.size + 1 + 1) 157 [.int .i64 u0, .int .i64 u1, .int .i64 u2, .int .i64 u3, .string u4, .string u5, .slice ua ul uc] := by rw [← hF]; exact (VRow.put7 HVR.out _ _ _ _ _ _ _).gr (Gr.refl _)
       have wF : Wr [b] w WF := by rw [← hF]; exact ((HG0.out.toWr [b]).trans HW.out |>.more2 (Wr.put7 _ _ _ _ _ _ _ _ _) (fun x hx => .inr (by rw [List.mem_singleton.1 hx]; omega))).gr (Gr.refl _)
       have cF : CurR WF b := by rw [← hF]; exact (HC.out.wr (Wr.put7 _ _ _ _ _ _ _ _ _) (fun x hx => by rw [List.mem_singleton.1 hx]; omega)).gr (Gr.refl _)
       have hrF : Rd.rd fe WF (#[.int .i64 u0, .int .i64 u1, .int .i64 u2, .int .i64 u3, .string u4, .string u5, .slice ua ul uc] : Array Value).toList xe := by rw [← hF]; exact Rd.gr (Rd.wr HRE.out (Wr.put7 _ _ _ _ _ _ _ _ _) (fun c hc hm => by have := HFE.out c hc; rw [List.mem_singleton.1 hm] at this; omega)) (Gr.refl _)
       have r0' := vF.cell (k := 0) (by simp)
       have r1' := vF.cell (k := 1) (by simp)
       have r2' := vF.cell (k := 2) (by simp)
       have r3' := vF.cell (k := 3) (by simp)
       have r4' := vF.cell (k := 4) (by simp)
       have r5' := vF.cell (k := 5) (by simp)
       have r6' := vF.cell (k := 6) (by simp)
       clear hF vF
       exact bodyPost_ret (v := .agg #[.int .i64 u0, .int .i64 u1, .int .i64 u2, .int .i64 u3, .string u4, .string u5, .slice ua ul uc]) (by simp [results, Try.results104, go_sem, r0', r1', r2', r3', r4', r5', r6']) rfl ⟨_, fe, xe, rfl, hrF, HWE.out, fun c hc => Nat.le_of_lt (Nat.lt_of_le_of_lt (Nat.le_add_right _ 2) (HFE.out c hc)), cF, wF⟩
      ·have n2 : (kind == 2) = false := by simpa using hk2
       go_wp2_with fail
       obtain ⟨fl, hl1, hl2⟩ := SlR.litI 3 (w := W2) rfl [9, 10, 11] rfl rfl (by decide) (by decide)
       refine (l1PickInt_any b fl _ [9, 10, 11] _ (HC.out.gr (Gr.alloc (Gr.refl _) _)) hl1 (fun hm => by have := hl2 b hm; have := HC.out.lt; omega) (by decide) (by decide)).mono ?_
       rintro e W3 ⟨op, hop, rfl, hc5, hw5⟩
       have hs23 := hw5.size
       simp at hs23
       have hop2 : 0 ≤ op ∧ op ≤ 12 := by simp at hop; omega
       have hopw : (Lit.int .i64 op).wf = true := wf_small hop2.1 (by omega)
       have hw5 := ((Gr.alloc (Gr.refl W2) _).toWr [b]).trans hw5
       have HW := Lib.hid (HW.out.trans hw5)
       have HVR := Lib.hid (HVR.out.wr hw5 (by simp; omega))
       have HC := Lib.hid hc5
       clear hc5 hw5
       have HOPW := Lib.hid hopw
       clear hop hop2 hl1 hl2 hopw
       have hs03 := HW.out.size
       go_wp2_with fail
       refine (operandTypes_some op _).mono ?_
       rintro e w' ⟨ta, tb, tc, rfl, ha0, ha1, hb0, hb1, rfl⟩
       have hrg : Rd.rd fg _ (#[.slice ag0 g0.length kg0, .slice ag1 g1.length kg1] : Array Value).toList (g0, g1) := Rd.wr (Rd.gr HG.out HG0.out) HW.out (fun c hc hm => HBG.out.1 (by rw [← List.mem_singleton.1 hm]; exact hc))
       have hrr : Rd.rd fr _ (#[.string r0, .string r1, .slice ar2 r2.length kr2, .bool r3, .slice ar4 r4.length kr4, .slice ar5 r5.length kr5] : Array Value).toList (r0, r1, r2, r3, r4, r5) := Rd.wr (Rd.gr HR.out HG0.out) HW.out (fun c hc hm => HBG.out.2 (by rw [← List.mem_singleton.1 hm]; exact hc))
       have HRG := Lib.hid hrg
       have HRR := Lib.hid hrr
       clear hrg hrr
       have kk0 := fun (w' : World) (h : Wr [b] W0 w') => h.keepC HBX.out.1 (by simp; omega)
       have kk1 := fun (w' : World) (h : Wr [b] W0 w') => h.keepC HBX.out.2.1 (by simp; omega)
       have kk2 := fun (w' : World) (h : Wr [b] W0 w') => h.keepC HBX.out.2.2.1 (by simp; omega)
       have kk3 := fun (w' : World) (h : Wr [b] W0 w') => h.keepC HBX.out.2.2.2.1 (by simp; omega)
       have kk4 := fun (w' : World) (h : Wr [b] W0 w') => h.keepC HBX.out.2.2.2.2.1 (by simp; omega)
       have kk5 := fun (w' : World) (h : Wr [b] W0 w') => h.keepC HBX.out.2.2.2.2.2.1 (by simp; omega)
       have kk6 := fun (w' : World) (h : Wr [b] W0 w') => h.keepC HBX.out.2.2.2.2.2.2.1 (by simp; omega)
       have kk7 := fun (w' : World) (h : Wr [b] W0 w') => h.keepC HBX.out.2.2.2.2.2.2.2 (by simp; omega)
       go_wp2_with fail
       refine wp_region_U (fun w' => Wr [b] W0 w') 18 (by kernel_rfl) (HW.out.gr (Gr.drew (Gr.refl _))) (fun hU => ?_)
       refine anyU_q 0 ?_
       try simp only [Act.put, uq1, uq2, uq3]
       refine anyU_q 1 ?_
       try simp only [Act.put, uq1, uq2, uq3]
       refine anyU_q 2 ?_
       try simp only [Act.put, uq1, uq2, uq3]
       refine anyU_q 3 ?_
       try simp only [Act.put, uq1, uq2, uq3]
       refine anyU_q 4 ?_
       try simp only [Act.put, uq1, uq2, uq3]
       refine anyU_q 5 ?_
       try simp only [Act.put, uq1, uq2, uq3]
       refine anyU_q 7 ?_
       try simp only [Act.put, uq1, uq2, uq3]
       refine anyU_q 9 ?_
       try simp only [Act.put, uq1, uq2, uq3]
       refine anyU_q 10 ?_
       try simp only [Act.put, uq1, uq2, uq3]
       refine anyU_q 11 ?_
       try simp only [Act.put, uq1, uq2, uq3]
       refine anyU_q 12 ?_
       try simp only [Act.put, uq1, uq2, uq3]
       refine anyU_q 13 ?_
       try simp only [Act.put, uq1, uq2, uq3]
       refine anyU_q 15 ?_
       try simp only [Act.put, uq1, uq2, uq3]
       refine anyU_q 6 ?_
       try simp only [Act.put, uq1, uq2, uq3]
       refine anyU_q 14 ?_
       try simp only [Act.put, uq1, uq2, uq3]
       refine anyU_ready (rs := [8]) (by kernel_rfl) (by simp) ?_
       refine (ReadyU.cons rfl (fun K hK => ?_) ReadyU.nil)
       go_simp
       go_at_call 104
       refine (HIH.out d' fg fr _ _ (g0, g1) (r0, r1, r2, r3, r4, r5) ta (D - 1) _ (by have := HDD.out; omega) (HC.out.gr (Gr.drew (Gr.refl _))) (Rd.gr HRG.out (Gr.drew (Gr.refl _))) (Rd.gr HRR.out (Gr.drew (Gr.refl _))) HBG.out.1 HBG.out.2 HWT.out HS.out hn' ⟨ha0, by omega⟩ (by omega) (by omega)).mono ?_
       rintro e W8 ⟨es8, fe8, xe8, rfl, hre8, hwe8, hfe8, hc5, hw5⟩
       obtain ⟨u80, u81, u82, u83, u84, u85, u8a, u8l, u8c, rfl⟩ := rdExpr_shape hre8
       have hw5 := ((Gr.drew (Gr.refl _)) : Gr W3 _).toWr [b] |>.trans hw5
       have HWP8 := Lib.hid hw5
       have HW := Lib.hid (HW.out.trans hw5)
       have HVR := Lib.hid (HVR.out.wr hw5 (by simp; omega))
       have HC := Lib.hid hc5
       clear hc5 hw5
       have hrg : Rd.rd fg _ (#[.slice ag0 g0.length kg0, .slice ag1 g1.length kg1] : Array Value).toList (g0, g1) := Rd.wr (Rd.gr HG.out HG0.out) HW.out (fun c hc hm => HBG.out.1 (by rw [← List.mem_singleton.1 hm]; exact hc))
       have hrr : Rd.rd fr _ (#[.string r0, .string r1, .slice ar2 r2.length kr2, .bool r3, .slice ar4 r4.length kr4, .slice ar5 r5.length kr5] : Array Value).toList (r0, r1, r2, r3, r4, r5) := Rd.wr (Rd.gr HR.out HG0.out) HW.out (fun c hc hm => HBG.out.2 (by rw [← List.mem_singleton.1 hm]; exact hc))
       have HRG := Lib.hid hrg
       have HRR := Lib.hid hrr
       clear hrg hrr
       have HRE8 := Lib.hid hre8
       have HWE8 := Lib.hid hwe8
       have HFE8 := Lib.hid (show ∀ c ∈ fe8, W3.heap.size ≤ c from fun c hc => by have := hfe8 c hc; (try simp at this); omega)
       have hsz8 := HWP8.out.size
       clear hre8 hwe8 hfe8
       refine hK.out _ _ HW.out (fun hU8 => ?_)
       clear hK K
       try simp only [Act.put, uq1, uq2, uq3]
       refine anyU_ready (rs := [16]) (by kernel_rfl) (by simp) ?_
       refine (ReadyU.cons rfl (fun K hK => ?_) ReadyU.nil)
       go_simp
       go_at_call 104
       refine (HIH.out d' fg fr _ _ (g0, g1) (r0, r1, r2, r3, r4, r5) tb (D - 1) _ (by have := HDD.out; omega) (HC.out.gr (Gr.refl _)) (Rd.gr HRG.out (Gr.refl _)) (Rd.gr HRR.out (Gr.refl _)) HBG.out.1 HBG.out.2 HWT.out HS.out hn' ⟨hb0, by omega⟩ (by omega) (by omega)).mono ?_
       rintro e W9 ⟨es9, fe9, xe9, rfl, hre9, hwe9, hfe9, hc5, hw5⟩
       obtain ⟨u90, u91, u92, u93, u94, u95, u9a, u9l, u9c, rfl⟩ := rdExpr_shape hre9
       have hw5 := ((Gr.refl _) : Gr W8 _).toWr [b] |>.trans hw5
       have HWP9 := Lib.hid hw5
       have HW := Lib.hid (HW.out.trans hw5)
       have HVR := Lib.hid (HVR.out.wr hw5 (by simp; omega))
       have HC := Lib.hid hc5
       clear hc5 hw5
       have hrg : Rd.rd fg _ (#[.slice ag0 g0.length kg0, .slice ag1 g1.length kg1] : Array Value).toList (g0, g1) := Rd.wr (Rd.gr HG.out HG0.out) HW.out (fun c hc hm => HBG.out.1 (by rw [← List.mem_singleton.1 hm]; exact hc))
       have hrr : Rd.rd fr _ (#[.string r0, .string r1, .slice ar2 r2.length kr2, .bool r3, .slice ar4 r4.length kr4, .slice ar5 r5.length kr5] : Array Value).toList (r0, r1, r2, r3, r4, r5) := Rd.wr (Rd.gr HR.out HG0.out) HW.out (fun c hc hm => HBG.out.2 (by rw [← List.mem_singleton.1 hm]; exact hc))
       have HRG := Lib.hid hrg
       have HRR := Lib.hid hrr
       clear hrg hrr
       have HRE9 := Lib.hid hre9
       have HWE9 := Lib.hid hwe9
       have HFE9 := Lib.hid (show ∀ c ∈ fe9, W8.heap.size ≤ c from fun c hc => by have := hfe9 c hc; (try simp at this); omega)
       have hsz9 := HWP9.out.size
       clear hre9 hwe9 hfe9
       refine hK.out _ _ HW.out (fun hU9 => ?_)
       clear hK K
       try simp only [Act.put, uq1, uq2, uq3]
       refine anyU_ready (rs := [17]) (by kernel_rfl) (by simp) ?_
       refine (ReadyU.cons rfl (fun K hK => ?_) ReadyU.nil)
       go_simp
       go_at_call 111
       refine (l4Op_any op xe8 xe9 _ HOPW.out (Rd.wr HRE8.out HWP9.out (fun c hc hm => by have := HFE8.out c hc; have h2 := List.mem_singleton.1 hm; omega)) HRE9.out).mono ?_
       rintro e W10 ⟨es, fe, xe, rfl, hre, hwe, hfe, g10⟩
       obtain ⟨u0, u1, u2, u3, u4, u5, ua, ul, uc, rfl⟩ := rdExpr_shape hre
       have HVR := Lib.hid (HVR.out.gr g10)
       have HC := Lib.hid (HC.out.gr g10)
       have HFE := Lib.hid (show ∀ c ∈ fe, w.heap.size + 2 < c from fun c hc => by
        rcases hfe c hc with h | h | h
        ·have := HFE8.out c h; omega
        ·have := HFE9.out c h; omega
        ·omega)
       have HRE := Lib.hid hre
       have HWE := Lib.hid (show wtExpr xe ≤ 100 * 4 ^ (n + 1) by
        have h1 := HWE8.out
        have h2 := HWE9.out
        have h3 := HP.out
        omega)
       have HW := Lib.hid (HW.out.gr g10)
       clear hre hwe hfe g10
       have e0 := HVR.out.cell (k := 0) (by simp)
       have e1 := HVR.out.cell (k := 1) (by simp)
       have e2 := HVR.out.cell (k := 2) (by simp)
       have e3 := HVR.out.cell (k := 3) (by simp)
       have e4 := HVR.out.cell (k := 4) (by simp)
       have e5 := HVR.out.cell (k := 5) (by simp)
       have e6 := HVR.out.cell (k := 6) (by simp)
       have f0 := HVR.out.frozen 0
       have f1 := HVR.out.frozen 1
       have f2 := HVR.out.frozen 2
       have f3 := HVR.out.frozen 3
       have f4 := HVR.out.frozen 4
       have f5 := HVR.out.frozen 5
       have f6 := HVR.out.frozen 6
       have ze := blk e0
       refine hK.out _ _ HW.out (fun hU9 => ?_)
       clear hK K
       try simp only [Act.put, uq1, uq2, uq3]
       refine anyU_ready (rs := [18]) (by kernel_rfl) (by simp) ?_
       refine ReadyU.last rfl (fun K hK => ?_)
       go_simp
       refine hK.out _ _ ?_
       clear hK K
       try simp only [Act.put, uq1, uq2, uq3]
       refine anyU_done (by kernel_rfl) ?_ _
       go_wp2_with fail
       clear e0 e1 e2 e3 e4 e5 e6 f0 f1 f2 f3 f4 f5 f6 ze
       clear hU hU8 hU9 kk0 kk1 kk2 kk3 kk4 kk5 kk6 kk7
       generalize hF : (((((((W10.setCell ⟨w.heap.size + 1 + 1, 0, none⟩ (.int .i64 u0)).setCell ⟨w.heap.size + 1 + 1, 1, none⟩ (.int .i64 u1)).setCell ⟨w.heap.size + 1 + 1, 2, none⟩ (.int .i64 u2)).setCell ⟨w.heap.size + 1 + 1, 3, none⟩ (.int .i64 u3)).setCell ⟨w.heap.size + 1 + 1, 4, none⟩ (.string u4)).setCell ⟨w.heap.size + 1 + 1, 5, none⟩ (.string u5)).setCell ⟨w.heap.size + 1 + 1, 6, none⟩ (.slice ua ul uc)) = WF
       have vF : VRow WF (w.heap.size + 1 + 1) 157 [.int .i64 u0, .int .i64 u1, .int .i64 u2, .int .i64 u3, .string u4, .string u5, .slice ua ul uc] := by rw [← hF]; exact (VRow.put7 HVR.out _ _ _ _ _ _ _).gr (Gr.refl _)
       have wF : Wr [b] w WF := by rw [← hF]; exact ((HG0.out.toWr [b]).trans HW.out |>.more2 (Wr.put7 _ _ _ _ _ _ _ _ _) (fun x hx => .inr (by rw [List.mem_singleton.1 hx]; omega))).gr (Gr.refl _)
       have cF : CurR WF b := by rw [← hF]; exact (HC.out.wr (Wr.put7 _ _ _ _ _ _ _ _ _) (fun x hx => by rw [List.mem_singleton.1 hx]; omega)).gr (Gr.refl _)
       have hrF : Rd.rd fe WF (#[.int .i64 u0, .int .i64 u1, .int .i64 u2, .int .i64 u3, .string u4, .string u5, .slice ua ul uc] : Array Value).toList xe := by rw [← hF]; exact Rd.gr (Rd.wr HRE.out (Wr.put7 _ _ _ _ _ _ _ _ _) (fun c hc hm => by have := HFE.out c hc; rw [List.mem_singleton.1 hm] at this; omega)) (Gr.refl _)
       have r0' := vF.cell (k := 0) (by simp)
       have r1' := vF.cell (k := 1) (by simp)
       have r2' := vF.cell (k := 2) (by simp)
       have r3' := vF.cell (k := 3) (by simp)
       have r4' := vF.cell (k := 4) (by simp)
       have r5' := vF.cell (k := 5) (by simp)
       have r6' := vF.cell (k := 6) (by simp)
       clear hF vF
       exact bodyPost_ret (v := .agg #[.int .i64 u0, .int .i64 u1, .int .i64 u2, .int .i64 u3, .string u4, .string u5, .slice ua ul uc]) (by simp [results, Try.results104, go_sem, r0', r1', r2', r3', r4', r5', r6']) rfl ⟨_, fe, xe, rfl, hrF, HWE.out, fun c hc => Nat.le_of_lt (Nat.lt_of_le_of_lt (Nat.le_add_right _ 2) (HFE.out c hc)), cF, wF⟩
end Go.Proofs.Ytmfcagcanhmdbaa
