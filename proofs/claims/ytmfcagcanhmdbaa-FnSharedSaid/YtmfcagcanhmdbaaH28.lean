/- An expression's fields looked at by the reference: some answer comes. A node of an expression, an expression: looked at by the reference. An expression is valid or not: the reference's. The place of a symbol in a grammar, the start symbol: the reference's. Whether a rule of a symbol has only children that have trees: the reference's. One's own row of cells whose children lead to blocks of one's own. No condition. -/
import Derived.Test.YtmfcagcanhmdbaaH24
import Derived.Test.YtmfcagcanhmdbaaH26
import Derived.Test.YtmfcagcanhmdbaaH03
import Derived.Test.YtmfcagcanhmdbaaH09
import Derived.Test.YtmfcagcanhmdbaaH08
namespace Go.Proofs.Ytmfcagcanhmdbaa
open Go.RowKit
set_option linter.unusedVariables false
set_option linter.unusedSimpArgs false
variable {d : Nat}
set_option maxRecDepth 10000 in
set_option maxHeartbeats 8000000 in
theorem l4Bare_some (fp : List Nat) (cs : Array Value) (x : GExpr d) (w : World) (hx : Rd.rd fp w cs.toList x) : Calls Try.prog 123 #[.agg cs] w (SomeB w) := by
 obtain ⟨q0, q1, q2, q3, q4, q5, q6⟩ := x
 obtain ⟨vq6, fq6, rfl, -, hq0, hq1, hq2, hq3, hq4, hq5, hq6⟩ := rdExpr_inv q0 q1 q2 q3 q4 q5 q6 hx
 obtain ⟨aq6, kq6, rfl, oq61, oq62, oq63⟩ := hq6.open
 have HX := Lib.hid hx
 have HQ6 := Lib.hid hq6
 clear hx
 go_enter Try.func123, Try.ntmps123
 go_wp2_with fail
 go_ways
 all_goals
  go_ret
  exact ⟨_, rfl, gd⟩
end Go.Proofs.Ytmfcagcanhmdbaa

namespace Go.Proofs.Ytmfcagcanhmdbaa
open Go.RowKit
set_option linter.unusedVariables false
set_option linter.unusedSimpArgs false
variable {d : Nat}
set_option maxRecDepth 10000 in
set_option maxHeartbeats 8000000 in
theorem l4Node_some (fp : List Nat) (cs : Array Value) (x : GExpr d) (w : World) (hx : Rd.rd fp w cs.toList x) (h4 : x.2.2.2.2.1.size ≤ 1048576) (h5 : x.2.2.2.2.2.1.size ≤ 1048576) : Calls Try.prog 120 #[.agg cs] w (SomeB w) := by
 obtain ⟨q0, q1, q2, q3, q4, q5, q6⟩ := x
 obtain ⟨vq6, fq6, rfl, -, hq0, hq1, hq2, hq3, hq4, hq5, hq6⟩ := rdExpr_inv q0 q1 q2 q3 q4 q5 q6 hx
 obtain ⟨aq6, kq6, rfl, oq61, oq62, oq63⟩ := hq6.open
 have HX := Lib.hid hx
 have HQ6 := Lib.hid hq6
 clear hx
 have h4' : q4.size ≤ 1048576 := h4
 have h5' : q5.size ≤ 1048576 := h5
 clear h4 h5
 go_enter Try.func120, Try.ntmps120
 go_wp2_with fail
 refine (l1In_any _ _ _ _).mono ?_
 rintro e w' ⟨rfl, rfl⟩
 by_cases hin : 1 ≤ q0 ∧ q0 ≤ 8
 ·have hb : (decide (1 ≤ q0) && decide (q0 ≤ 8)) = true := by rw [decide_eq_true hin.1, decide_eq_true hin.2]; rfl
  rw [hb]
  clear hb hin
  go_wp2_with fail
  refine (l4Bare_some _ _ (q0, q1, q2, q3, q4, q5, q6) _ (Rd.gr HX.out gd)).mono ?_
  rintro e w' ⟨r, rfl, x1, rfl⟩
  cases r with
  | false =>
   go_wp2_with fail
   go_ret
   exact ⟨_, rfl, gd⟩
  | true =>
   go_wp2_with (first | (go_at_call 31; refine (l1In_any _ _ _ _).mono ?_; rintro e w' ⟨rfl, rfl⟩) | (go_at_call 124; refine (isOfType_some _ _ _).mono ?_; rintro e w' ⟨r, rfl, x2, rfl⟩) | (go_at_call_of 125 q5; refine (isValidName_some _ h5' _).mono ?_; rintro e w' ⟨r5, rfl, x3, rfl⟩) | (go_at_call_of 125 q4; refine (isValidName_some _ h4' _).mono ?_; rintro e w' ⟨r4, rfl, x4, rfl⟩))
   go_ways
   all_goals
    go_ret
    exact ⟨_, rfl, gd⟩
 ·have hb : (decide (1 ≤ q0) && decide (q0 ≤ 8)) = false := Bool.and_eq_false_iff.2 (by by_cases h : 1 ≤ q0 <;> simp_all <;> omega)
  rw [hb]
  go_wp2_with fail
  go_ret
  exact ⟨_, rfl, gd⟩
end Go.Proofs.Ytmfcagcanhmdbaa

namespace Go.Proofs.Ytmfcagcanhmdbaa
open Go.RowKit
set_option linter.unusedVariables false
set_option linter.unusedSimpArgs false
variable {d : Nat}
set_option maxRecDepth 10000 in
set_option maxHeartbeats 8000000 in
theorem l4All_of (hE : ∀ (fp : List Nat) (cs : Array Value) (x : GE d) (w : World) (hx : Rd.rd fp w cs.toList x) (hl : wtE d x ≤ 1048576), Calls Try.prog 114 #[.agg cs] w (SomeB w))
  (fp : List Nat) (cs : Array Value) (x : GExpr d) (w : World) (hx : Rd.rd fp w cs.toList x) (hl : wtExpr x ≤ 1048576) : Calls Try.prog 114 #[.agg cs] w (SomeB w) := by
 obtain ⟨q0, q1, q2, q3, q4, q5, q6⟩ := x
 obtain ⟨vq6, fq6, rfl, -, hq0, hq1, hq2, hq3, hq4, hq5, hq6⟩ := rdExpr_inv q0 q1 q2 q3 q4 q5 q6 hx
 obtain ⟨aq6, kq6, rfl, oq61, oq62, oq63⟩ := hq6.open
 have HX := Lib.hid hx
 have HQ6 := Lib.hid hq6
 clear hx
 have hw : q4.size + q5.size + wtL (wtE d) q6 ≤ 1048576 := hl
 have HWQ := Lib.hid hw
 clear hl hw
 go_enter Try.func114, Try.ntmps114
 go_wp2_with fail
 generalize hB : w.alloc (.cells #[.int .i64 q0, .int .i64 q1, .int .i64 q2, .int .i64 q3, .string q4, .string q5, .slice aq6 q6.length kq6] 157) = B
 have gB : Gr w B := by rw [← hB]; exact gd
 have b0 : B.cell? ⟨w.heap.size, 0, none⟩ = some (.int .i64 q0) := by rw [← hB]; exact box_cell rfl rfl
 have b1 : B.cell? ⟨w.heap.size, 1, none⟩ = some (.int .i64 q1) := by rw [← hB]; exact box_cell rfl rfl
 have b2 : B.cell? ⟨w.heap.size, 2, none⟩ = some (.int .i64 q2) := by rw [← hB]; exact box_cell rfl rfl
 have b3 : B.cell? ⟨w.heap.size, 3, none⟩ = some (.int .i64 q3) := by rw [← hB]; exact box_cell rfl rfl
 have b4 : B.cell? ⟨w.heap.size, 4, none⟩ = some (.string q4) := by rw [← hB]; exact box_cell rfl rfl
 have b5 : B.cell? ⟨w.heap.size, 5, none⟩ = some (.string q5) := by rw [← hB]; exact box_cell rfl rfl
 have b6 : B.cell? ⟨w.heap.size, 6, none⟩ = some (.slice aq6 q6.length kq6) := by rw [← hB]; exact box_cell rfl rfl
 have HGB := Lib.hid gB
 have HB := Lib.hid (And.intro b0 (And.intro b1 (And.intro b2 (And.intro b3 (And.intro b4 (And.intro b5 b6))))))
 clear hB gB b0 b1 b2 b3 b4 b5 b6
 go_loopw [3] (fun s3 wr => ∃ (k : Nat), k ≤ q6.length ∧ Hid (Gr B wr) ∧ s3 = .int .i64 k) (fun s3 _ => q6.length - (intOf s3).toNat)
 case atStart => exact ⟨0, by omega, Lib.hid (Gr.refl _), rfl⟩
 case round =>
  obtain ⟨k, hk, HG, rfl⟩ := hrel
  rename World => W1
  have y0 := HG.out.keep HB.out.1
  have y1 := HG.out.keep HB.out.2.1
  have y2 := HG.out.keep HB.out.2.2.1
  have y3 := HG.out.keep HB.out.2.2.2.1
  have y4 := HG.out.keep HB.out.2.2.2.2.1
  have y5 := HG.out.keep HB.out.2.2.2.2.2.1
  have y6 := HG.out.keep HB.out.2.2.2.2.2.2
  have zy := blk y0
  have HGW := Lib.hid (HGB.out.trans HG.out)
  by_cases hlt : k < q6.length
  ·have hwk := wtL_at (wtE d) q6 hlt
   have HWK := Lib.hid (show wtE d q6[k] ≤ 1048576 by have := HWQ.out; omega)
   clear hwk
   obtain ⟨d1, rfl⟩ : ∃ e, d = e + 1 := by
    cases d with
    | zero => exact PEmpty.elim (q6[k])
    | succ e => exact ⟨e, rfl⟩
   obtain ⟨b, off, rfl, hb⟩ := oq63 k hlt
   obtain ⟨csp, fep, hcp, hrp, -⟩ := HQ6.out.at hlt
   obtain ⟨yp, hyp⟩ : ∃ y, y = q6[k] := ⟨_, rfl⟩
   rw [← hyp] at hrp
   have HYp := Lib.hid hyp
   have HRp := Lib.hid hrp
   obtain ⟨p0, p1, p2, p3, p4, p5, p6⟩ := yp
   obtain ⟨vp6, fp6, hcsp, -, hp0, hp1, hp2, hp3, hp4, hp5, hp6⟩ := rdExpr_inv (cs := csp.toArray) p0 p1 p2 p3 p4 p5 p6 (show Rd.rd (α := GExpr d1) fep w csp.toArray.toList _ from hrp)
   obtain rfl : csp = [.int .i64 p0, .int .i64 p1, .int .i64 p2, .int .i64 p3, .string p4, .string p5, vp6] := by have := congrArg Array.toList hcsp; simpa using this
   obtain ⟨ap6, kp6, rfl, -, -, -⟩ := hp6.open
   have z0 := HGW.out.keep (show w.cell? ⟨b, off + k * 7, none⟩ = some (.int .i64 p0) from hcp 0 _ rfl)
   have z1 := HGW.out.keep (show w.cell? ⟨b, off + k * 7 + 1, none⟩ = some (.int .i64 p1) from hcp 1 _ rfl)
   have z2 := HGW.out.keep (show w.cell? ⟨b, off + k * 7 + 2, none⟩ = some (.int .i64 p2) from hcp 2 _ rfl)
   have z3 := HGW.out.keep (show w.cell? ⟨b, off + k * 7 + 3, none⟩ = some (.int .i64 p3) from hcp 3 _ rfl)
   have z4 := HGW.out.keep (show w.cell? ⟨b, off + k * 7 + 4, none⟩ = some (.string p4) from hcp 4 _ rfl)
   have z5 := HGW.out.keep (show w.cell? ⟨b, off + k * 7 + 5, none⟩ = some (.string p5) from hcp 5 _ rfl)
   have z6 := HGW.out.keep (show w.cell? ⟨b, off + k * 7 + 6, none⟩ = some (.slice ap6 p6.length kp6) from hcp 6 _ rfl)
   have zb := blk z0
   have k0 : (0 : Int) ≤ (k : Int) := by omega
   have k1 : (k : Int) < (q6.length : Int) := by omega
   have iw : IntKind.i64.wrap ((k : Int) + 1) = (k : Int) + 1 := IntWalk.i64_in _ (by omega)
   clear hcsp hcp hrp hyp oq63 hp0 hp1 hp2 hp3 hp4 hp5 hp6
   go_wp2_with fail
   refine (hE _ _ q6[k] _ (Rd.gr (by rw [← HYp.out]; exact HRp.out) HGW.out) HWK.out).mono ?_
   rintro e w' ⟨r, rfl, g2⟩
   have HG2 := Lib.hid g2
   clear g2
   cases r with
   | false =>
    go_wp2_with fail
    go_ret
    exact ⟨_, rfl, HGW.out.trans HG2.out⟩
   | true =>
    go_wp2_with fail
    exact ⟨⟨k + 1, by omega, Lib.hid (HG.out.trans HG2.out), by go_num⟩, by simp [intOf]; omega⟩
  ·go_wp2_with fail
   refine (l4Node_some _ _ (q0, q1, q2, q3, q4, q5, q6) _ (Rd.gr HX.out HGW.out) (by have := HWQ.out; show q4.size ≤ _; omega) (by have := HWQ.out; show q5.size ≤ _; omega)).mono ?_
   rintro e w' ⟨r, rfl, g2⟩
   have HG2 := Lib.hid g2
   clear g2
   go_wp2_with fail
   go_ret
   exact ⟨_, rfl, HGW.out.trans HG2.out⟩
theorem l4All_all : (d : Nat) → ∀ (fp : List Nat) (cs : Array Value) (x : GE d) (w : World) (hx : Rd.rd fp w cs.toList x) (hl : wtE d x ≤ 1048576), Calls Try.prog 114 #[.agg cs] w (SomeB w)
 | 0 => by intro fp cs x; exact PEmpty.elim x
 | d + 1 => l4All_of (l4All_all d)

set_option maxRecDepth 10000 in
set_option maxHeartbeats 8000000 in
theorem isValidExpr_some (hd : d ≤ 1000) (fp : List Nat) (cs : Array Value) (x : GExpr d) (w : World) (hx : Rd.rd fp w cs.toList x) (hl : wtExpr x ≤ 1048576) : Calls Try.prog 105 #[.agg cs] w (SomeB w) := by
 obtain ⟨q0, q1, q2, q3, q4, q5, q6⟩ := x
 obtain ⟨vq6, fq6, rfl, -, hq0, hq1, hq2, hq3, hq4, hq5, hq6⟩ := rdExpr_inv q0 q1 q2 q3 q4 q5 q6 hx
 obtain ⟨aq6, kq6, rfl, oq61, oq62, oq63⟩ := hq6.open
 have HX := Lib.hid hx
 have HQ6 := Lib.hid hq6
 clear hx
 have HL := Lib.hid hl
 clear hl
 go_enter Try.func105, Try.ntmps105
 go_wp2_with fail
 generalize hB : w.alloc (.cells #[.int .i64 q0, .int .i64 q1, .int .i64 q2, .int .i64 q3, .string q4, .string q5, .slice aq6 q6.length kq6] 157) = B
 have gB : Gr w B := by rw [← hB]; exact gd
 have b0 : B.cell? ⟨w.heap.size, 0, none⟩ = some (.int .i64 q0) := by rw [← hB]; exact box_cell rfl rfl
 have b1 : B.cell? ⟨w.heap.size, 1, none⟩ = some (.int .i64 q1) := by rw [← hB]; exact box_cell rfl rfl
 have b2 : B.cell? ⟨w.heap.size, 2, none⟩ = some (.int .i64 q2) := by rw [← hB]; exact box_cell rfl rfl
 have b3 : B.cell? ⟨w.heap.size, 3, none⟩ = some (.int .i64 q3) := by rw [← hB]; exact box_cell rfl rfl
 have b4 : B.cell? ⟨w.heap.size, 4, none⟩ = some (.string q4) := by rw [← hB]; exact box_cell rfl rfl
 have b5 : B.cell? ⟨w.heap.size, 5, none⟩ = some (.string q5) := by rw [← hB]; exact box_cell rfl rfl
 have b6 : B.cell? ⟨w.heap.size, 6, none⟩ = some (.slice aq6 q6.length kq6) := by rw [← hB]; exact box_cell rfl rfl
 have HGB := Lib.hid gB
 have HB := Lib.hid (And.intro b0 (And.intro b1 (And.intro b2 (And.intro b3 (And.intro b4 (And.intro b5 b6))))))
 clear hB gB b0 b1 b2 b3 b4 b5 b6
 have HG := Lib.hid (Gr.refl B)
 have y0 := HG.out.keep HB.out.1
 have y1 := HG.out.keep HB.out.2.1
 have y2 := HG.out.keep HB.out.2.2.1
 have y3 := HG.out.keep HB.out.2.2.2.1
 have y4 := HG.out.keep HB.out.2.2.2.2.1
 have y5 := HG.out.keep HB.out.2.2.2.2.2.1
 have y6 := HG.out.keep HB.out.2.2.2.2.2.2
 have zy := blk y0
 have HGW := Lib.hid (HGB.out.trans HG.out)
 refine (l4Left_of (l4Left_all d) _ _ (q0, q1, q2, q3, q4, q5, q6) 24 _ (Rd.gr HX.out HGB.out) (by omega) (by omega)).mono ?_
 rintro e w' ⟨r, rfl, hr0, hr1, x1, rfl⟩
 by_cases h0 : 0 ≤ r
 ·go_wp2_with fail
  refine (depth_of (by omega) (depth_all d (by omega)) _ _ (q0, q1, q2, q3, q4, q5, q6) _ (Rd.gr HX.out (HGB.out.trans gd))).mono ?_
  rintro e w' ⟨r2, rfl, hq0, hq1, x2, rfl⟩
  by_cases h6 : r2 ≤ 6
  ·go_wp2_with fail
   refine (l4All_of (l4All_all d) _ _ (q0, q1, q2, q3, q4, q5, q6) _ (Rd.gr HX.out (HGB.out.trans gd)) HL.out).mono ?_
   rintro e w' ⟨r3, rfl, x3, rfl⟩
   go_wp2_with fail
   go_ret
   exact ⟨_, rfl, HGB.out.trans gd⟩
  ·go_wp2_with fail
   go_ret
   exact ⟨_, rfl, HGB.out.trans gd⟩
 ·go_wp2_with fail
  go_ret
  exact ⟨_, rfl, HGB.out.trans gd⟩
end Go.Proofs.Ytmfcagcanhmdbaa

namespace Go.Proofs.Ytmfcagcanhmdbaa
open Go.RowKit
set_option linter.unusedVariables false
set_option linter.unusedSimpArgs false
variable {d : Nat}

def atS (ss : List GSymbol) (n : ByteArray) : Int := idxOf (fun s => decide (s.1 = n)) ss
set_option maxRecDepth 10000 in
set_option maxHeartbeats 4000000 in
theorem l12At_any {fg : List Nat} {cg : Array Value} (g : GGrammar d) (n : ByteArray) (w : World) (hg : Rd.rd fg w cg.toList g) :
  Calls Try.prog 119 #[.agg cg, .string n] w fun e w' => e = .returned (.int .i64 (atS g.1 n)) ∧ Gr w w' := by
 have HG := Lib.hid hg
 obtain ⟨g0, g1⟩ := g
 obtain ⟨vg0, fg0, vg1, fg1, rfl, hfpg, hg0, hg1⟩ := rdGrammar_inv g0 g1 hg
 have FPg := Lib.hid hfpg
 clear hfpg
 obtain ⟨ag0, kg0, rfl, og01, og02, og03⟩ := hg0.open
 obtain ⟨ag1, kg1, rfl, og11, og12, og13⟩ := hg1.open
 clear hg
 go_enter Try.func119, Try.ntmps119
 go_wp2_with fail
 generalize hB : (w.alloc (.cells #[.slice ag0 g0.length kg0, .slice ag1 g1.length kg1] 114)) = B
 have gB : Gr w B := by rw [← hB]; exact gd
 have bB0 : ∀ w' : World, Gr B w' → w'.cell? ⟨w.heap.size, 0, none⟩ = some (.slice ag0 g0.length kg0) := fun w' hg => hg.keep (by rw [← hB]; repeat (first | ((with_reducible refine box_cell ?_ ?_) <;> first | omega | (simp; done) | (simp; omega) | rfl) | (with_reducible refine Gr.keep (Gr.alloc (Gr.refl _) _) ?_) | (with_reducible refine Gr.keep (Gr.ext (Gr.refl _) _) ?_) | (with_reducible refine Gr.keep (Gr.drew (Gr.refl _)) ?_)))
 have bB1 : ∀ w' : World, Gr B w' → w'.cell? ⟨w.heap.size, 1, none⟩ = some (.slice ag1 g1.length kg1) := fun w' hg => hg.keep (by rw [← hB]; repeat (first | ((with_reducible refine box_cell ?_ ?_) <;> first | omega | (simp; done) | (simp; omega) | rfl) | (with_reducible refine Gr.keep (Gr.alloc (Gr.refl _) _) ?_) | (with_reducible refine Gr.keep (Gr.ext (Gr.refl _) _) ?_) | (with_reducible refine Gr.keep (Gr.drew (Gr.refl _)) ?_)))
 have sB : B.heap.size = w.heap.size + 1 := by rw [← hB]; first | (simp; done) | (simp; omega)
 have EB := Lib.hid hB
 clear hB
 go_loopw [5] (fun s5 wr => ∃ k : Nat, k ≤ g0.length ∧ Hid (∀ j (h : j < g0.length), j < k → decide (g0[j].1 = n) = false) ∧ Gr B wr ∧ s5 = .int .i64 k) (fun s5 _ => g0.length - (intOf s5).toNat)
 case atStart => exact ⟨0, by omega, Lib.hid (fun j h hj => by omega), Gr.refl _, rfl⟩
 case round =>
  obtain ⟨k, hk, HT, hg1, rfl⟩ := hrel
  rename World => W1
  have y0 := bB0 _ hg1
  have zy0 := blk y0
  have hgw := gB.trans hg1
  have HGW := Lib.hid hgw
  have HG1 := Lib.hid hg1
  clear hg1
  by_cases hlt : k < g0.length
  ·skip
   obtain ⟨b, off, rfl, hbb⟩ := og03 k hlt
   obtain ⟨csq, feq, hcq, hrq, -⟩ := hg0.at hlt
   obtain ⟨yq, hyq⟩ : ∃ y, y = g0[k] := ⟨_, rfl⟩
   rw [← hyq] at hrq
   have HYq := Lib.hid hyq
   have HRq := Lib.hid hrq
   obtain ⟨q0, q1⟩ := yq
   obtain ⟨vq1, fq1, hcsq, -, hq0, hq1⟩ := rdSymbol_inv (cs := csq.toArray) q0 q1 (by simpa using hrq)
   obtain rfl : csq = [.string q0, vq1] := by have := congrArg Array.toList hcsq; simpa using this
   obtain ⟨aq1, kq1, rfl, oq11, oq12, oq13⟩ := hq1.open
   have qz0 := hgw.keep (show w.cell? ⟨b, off + k * 2, none⟩ = some (.string q0) from by simpa [Rd.n] using hcq 0 _ rfl)
   have qz1 := hgw.keep (show w.cell? ⟨b, off + k * 2 + 1, none⟩ = some (.slice aq1 q1.length kq1) from hcq 1 _ rfl)
   have qzb := blk qz0
   clear hcsq hcq hrq hyq
   have k0 : (0 : Int) ≤ (k : Int) := by omega
   have k1 : (k : Int) < (g0.length : Int) := by omega
   have iw : IntKind.i64.wrap ((k : Int) + 1) = (k : Int) + 1 := IntWalk.i64_in _ (by omega)
   by_cases hkey : q0 = n
   ·have HE := Lib.hid (show atS g0 n = k from idxOf_at hlt (decide_eq_true (by rw [← HYq.out]; exact hkey)) HT.out)
    subst hkey
    go_wp2_with fail
    go_ret
    exact ⟨ret_int HE.out.symm, HGW.out⟩
   ·have E := Lib.hid hkey
    have e : (q0.toList == n.toList) = false := by simpa using fun e => hkey (str_inj e)
    clear hkey
    go_wp2_with fail
    refine ⟨⟨k + 1, by omega, Lib.hid fun j hj hjk => ?_, HG1.out, by go_num⟩, by simp [intOf]; omega⟩
    by_cases hjk2 : j < k
    ·exact HT.out j hj hjk2
    ·obtain rfl : j = k := by omega
     rw [← HYq.out]
     exact decide_eq_false E.out
  ·have HE := Lib.hid (show atS g0 n = -1 from idxOf_none (fun j hj => HT.out j hj (by omega)))
   go_wp2_with fail
   go_ret
   exact ⟨ret_int HE.out.symm, HGW.out⟩

set_option maxRecDepth 10000 in
set_option maxHeartbeats 4000000 in
theorem l13Start_some {fg : List Nat} {cg : Array Value} (g : GGrammar d) (w : World) (hg : Rd.rd fg w cg.toList g) :
  Calls Try.prog 98 #[.agg cg] w fun e w' => e = .returned (.string ((g.1.head?.map Prod.fst).getD ⟨#[]⟩)) ∧ Gr w w' := by
 have HG := Lib.hid hg
 obtain ⟨g0, g1⟩ := g
 obtain ⟨vg0, fg0, vg1, fg1, rfl, hfpg, hg0, hg1⟩ := rdGrammar_inv g0 g1 hg
 have FPg := Lib.hid hfpg
 clear hfpg
 obtain ⟨ag0, kg0, rfl, og01, og02, og03⟩ := hg0.open
 obtain ⟨ag1, kg1, rfl, og11, og12, og13⟩ := hg1.open
 clear hg
 by_cases hlt : 0 < g0.length
 ·have h1 : g0.head? = some g0[0] := by cases g0 with
   | nil => simp at hlt
   | cons a l => rfl
  obtain ⟨k, hk⟩ : ∃ k : Nat, k = 0 := ⟨0, rfl⟩
  have hlt0 := hlt
  rw [← hk] at hlt
  obtain ⟨b, off, rfl, hbb⟩ := og03 k hlt
  obtain ⟨csq, feq, hcq, hrq, -⟩ := hg0.at hlt
  obtain ⟨yq, hyq⟩ : ∃ y, y = g0[k] := ⟨_, rfl⟩
  rw [← hyq] at hrq
  have HYq := Lib.hid hyq
  have HRq := Lib.hid hrq
  obtain ⟨q0, q1⟩ := yq
  obtain ⟨vq1, fq1, hcsq, -, hq0, hq1⟩ := rdSymbol_inv (cs := csq.toArray) q0 q1 (by simpa using hrq)
  obtain rfl : csq = [.string q0, vq1] := by have := congrArg Array.toList hcsq; simpa using this
  obtain ⟨aq1, kq1, rfl, oq11, oq12, oq13⟩ := hq1.open
  have qz0 : w.cell? ⟨b, off + k * 2, none⟩ = some (.string q0) := by simpa [Rd.n] using hcq 0 _ rfl
  have qz1 : w.cell? ⟨b, off + k * 2 + 1, none⟩ = some (.slice aq1 q1.length kq1) := hcq 1 _ rfl
  have qzb := blk qz0
  clear hcsq hcq hrq hyq
  have HE := Lib.hid (show (g0.head?.map Prod.fst).getD ⟨#[]⟩ = q0 by rw [h1]; show g0[0].1 = q0; have := HYq.out; subst hk; rw [← this])
  subst hk
  have n0 : ((g0.length : Int) == 0) = false := by simp; intro h; rw [h] at hlt0; simp at hlt0
  have n1 : (0 : Int) < (g0.length : Int) := by omega
  simp only [Nat.zero_mul, Nat.add_zero] at qz0 qz1
  clear h1
  go_enter Try.func98, Try.ntmps98
  go_wp2_with fail
  go_ret
  refine ⟨?_, gd⟩
  rw [HE.out]
  rfl
 ·have h0 : g0.length = 0 := by omega
  have n0 : ((g0.length : Int) == 0) = true := by simp [h0]
  have HE := Lib.hid (show (g0.head?.map Prod.fst).getD ⟨#[]⟩ = ⟨#[]⟩ by rw [List.eq_nil_of_length_eq_zero h0]; rfl)
  go_enter Try.func98, Try.ntmps98
  go_wp2_with fail
  go_ret
  refine ⟨?_, gd⟩
  rw [HE.out]
  rfl
end Go.Proofs.Ytmfcagcanhmdbaa

namespace Go.Proofs.Ytmfcagcanhmdbaa
open Go.RowKit
set_option linter.unusedVariables false
set_option linter.unusedSimpArgs false
variable {d : Nat}

def lowS (ss : List GSymbol) (hs : List Int) (s : ByteArray) : Bool := decide (0 ≤ atS ss s) && decide (0 < hs.getD (atS ss s).toNat 0)
def goodR (ss : List GSymbol) (hs : List Int) (n : ByteArray) (r : GRule d) : Bool := decide (r.2.1 = n) && r.2.2.1.all (lowS ss hs)
def reachS (g : GGrammar d) (hs : List Int) (n : ByteArray) : Bool := g.2.any (goodR g.1 hs n)
theorem atS_lt (ss : List GSymbol) (n : ByteArray) : atS ss n < ss.length ∨ atS ss n = -1 := by
 unfold atS
 generalize (fun s : GSymbol => decide (s.1 = n)) = p
 induction ss with
 | nil => right; rfl
 | cons x xs ih =>
  simp only [idxOf, List.length_cons]
  split
  ·left; omega
  ·split <;> omega

def RcIn (g : GGrammar d) (hs : List Int) (n : ByteArray) (B : World) (k : Nat) (wr : World) : Prop := Gr B wr ∧ ∀ j (h : j < g.2.length), j < k → goodR g.1 hs n g.2[j] = false

set_option maxRecDepth 10000 in
set_option maxHeartbeats 8000000 in
theorem l12Reached_any {fg fh : List Nat} {cg : Array Value} {vh : Value} (g : GGrammar d) (n : ByteArray) (hs : List Int) (w : World) (hg : Rd.rd fg w cg.toList g) (hh : SlR fh w vh hs) (hlen : hs.length = g.1.length) :
  Calls Try.prog 121 #[.agg cg, .string n, vh] w fun e w' => e = .returned (.bool (reachS g hs n)) ∧ Gr w w' := by
 have HH := Lib.hid hh
 obtain ⟨ah, kh, rfl, oh1, oh2, oh3⟩ := hh.open
 clear hh
 have HG := Lib.hid hg
 obtain ⟨g0, g1⟩ := g
 obtain ⟨vg0, fg0, vg1, fg1, rfl, hfpg, hg0, hg1⟩ := rdGrammar_inv g0 g1 hg
 have FPg := Lib.hid hfpg
 clear hfpg
 obtain ⟨ag0, kg0, rfl, og01, og02, og03⟩ := hg0.open
 obtain ⟨ag1, kg1, rfl, og11, og12, og13⟩ := hg1.open
 clear hg
 have HLEN := Lib.hid (show hs.length = g0.length from hlen)
 clear hlen
 go_enter Try.func121, Try.ntmps121
 go_wp2_with fail
 generalize hB : (w.alloc (.cells #[.slice ag0 g0.length kg0, .slice ag1 g1.length kg1] 114)) = B
 have gB : Gr w B := by rw [← hB]; exact gd
 have bB0 : ∀ w' : World, Gr B w' → w'.cell? ⟨w.heap.size, 0, none⟩ = some (.slice ag0 g0.length kg0) := fun w' hg => hg.keep (by rw [← hB]; repeat (first | ((with_reducible refine box_cell ?_ ?_) <;> first | omega | (simp; done) | (simp; omega) | rfl) | (with_reducible refine Gr.keep (Gr.alloc (Gr.refl _) _) ?_) | (with_reducible refine Gr.keep (Gr.ext (Gr.refl _) _) ?_) | (with_reducible refine Gr.keep (Gr.drew (Gr.refl _)) ?_)))
 have bB1 : ∀ w' : World, Gr B w' → w'.cell? ⟨w.heap.size, 1, none⟩ = some (.slice ag1 g1.length kg1) := fun w' hg => hg.keep (by rw [← hB]; repeat (first | ((with_reducible refine box_cell ?_ ?_) <;> first | omega | (simp; done) | (simp; omega) | rfl) | (with_reducible refine Gr.keep (Gr.alloc (Gr.refl _) _) ?_) | (with_reducible refine Gr.keep (Gr.ext (Gr.refl _) _) ?_) | (with_reducible refine Gr.keep (Gr.drew (Gr.refl _)) ?_)))
 have sB : B.heap.size = w.heap.size + 1 := by rw [← hB]; first | (simp; done) | (simp; omega)
 have EB := Lib.hid hB
 clear hB
 go_loopw [7] (fun s7 wr => ∃ k : Nat, k ≤ g1.length ∧ RcIn (g0, g1) hs n B k wr ∧ s7 = .int .i64 k) (fun s7 _ => g1.length - (intOf s7).toNat)
 case atStart => exact ⟨0, by omega, ⟨Gr.refl _, fun j h hj => by omega⟩, rfl⟩
 case round =>
  obtain ⟨k, hk, ⟨hgB, hT⟩, rfl⟩ := hrel
  rename World => W1
  have HT := Lib.hid hT
  have HG1 := Lib.hid hgB
  have y0 := bB0 _ hgB
  have y1 := bB1 _ hgB
  have zy1 := blk y1
  have hgw := gB.trans hgB
  have HGW := Lib.hid hgw
  clear hT hgB
  by_cases hlt : k < g1.length
  ·skip
   obtain ⟨b, off, rfl, hbb⟩ := og13 k hlt
   obtain ⟨csq, feq, hcq, hrq, -⟩ := hg1.at hlt
   obtain ⟨yq, hyq⟩ : ∃ y, y = g1[k] := ⟨_, rfl⟩
   rw [← hyq] at hrq
   have HYq := Lib.hid hyq
   have HRq := Lib.hid hrq
   obtain ⟨q0, q1, q2, q3, q4, q5⟩ := yq
   obtain ⟨vq2, fq2, vq4, fq4, vq5, fq5, hcsq, -, hq0, hq1, hq2, hq4, hq5⟩ := rdRule_inv (cs := csq.toArray) q0 q1 q2 q3 q4 q5 (by simpa using hrq)
   obtain rfl : csq = [.string q0, .string q1, vq2, .bool q3, vq4, vq5] := by have := congrArg Array.toList hcsq; simpa using this
   obtain ⟨aq2, kq2, rfl, oq21, oq22, oq23⟩ := hq2.open
   obtain ⟨aq4, kq4, rfl, oq41, oq42, oq43⟩ := hq4.open
   obtain ⟨aq5, kq5, rfl, oq51, oq52, oq53⟩ := hq5.open
   have qz0 := hgw.keep (show w.cell? ⟨b, off + k * 6, none⟩ = some (.string q0) from by simpa [Rd.n] using hcq 0 _ rfl)
   have qz1 := hgw.keep (show w.cell? ⟨b, off + k * 6 + 1, none⟩ = some (.string q1) from hcq 1 _ rfl)
   have qz2 := hgw.keep (show w.cell? ⟨b, off + k * 6 + 2, none⟩ = some (.slice aq2 q2.length kq2) from hcq 2 _ rfl)
   have qz3 := hgw.keep (show w.cell? ⟨b, off + k * 6 + 3, none⟩ = some (.bool q3) from hcq 3 _ rfl)
   have qz4 := hgw.keep (show w.cell? ⟨b, off + k * 6 + 4, none⟩ = some (.slice aq4 q4.length kq4) from hcq 4 _ rfl)
   have qz5 := hgw.keep (show w.cell? ⟨b, off + k * 6 + 5, none⟩ = some (.slice aq5 q5.length kq5) from hcq 5 _ rfl)
   have qzb := blk qz0
   clear hcsq hcq hrq hyq
   have k0 : (0 : Int) ≤ (k : Int) := by omega
   have k1 : (k : Int) < (g1.length : Int) := by omega
   have iw : IntKind.i64.wrap ((k : Int) + 1) = (k : Int) + 1 := IntWalk.i64_in _ (by omega)
   have HQ2 := Lib.hid hq2
   go_wp2_with fail
   generalize hW2 : W1.alloc (.cells #[.string q0, .string q1, .slice aq2 q2.length kq2, .bool q3, .slice aq4 q4.length kq4, .slice aq5 q5.length kq5] 138) = W2
   have g12 : Gr W1 W2 := by rw [← hW2]; exact gd
   have v2 : VRow W2 W1.heap.size 138 [.string q0, .string q1, .slice aq2 q2.length kq2, .bool q3, .slice aq4 q4.length kq4, .slice aq5 q5.length kq5] := by rw [← hW2]; exact VRow.new rfl
   have HG2 := Lib.hid (HG1.out.trans g12)
   have HV2 := Lib.hid v2
   have hkey : (q1.toList == n.toList) = decide (q1 = n) := by
    by_cases h : q1 = n
    ·subst h; simp
    ·rw [decide_eq_false h]; simpa using fun e => h (str_inj e)
   rw [hkey]
   have HGD : Hid (goodR g0 hs n g1[k] = (decide (q1 = n) && q2.all (lowS g0 hs))) := Lib.hid (by rw [← HYq.out]; rfl)
   clear hW2 g12 v2 y0 y1 zy1 qz0 qz1 qz2 qz3 qz4 qz5 qzb hgw hkey
   go_loopw [10, 9] (fun s10 s9 wr => ∃ (m : Nat) (gb : Bool), m ≤ q2.length ∧ Gr W2 wr ∧ Hid (gb = (decide (q1 = n) && (q2.take m).all (lowS g0 hs))) ∧ s10 = .int .i64 m ∧ s9 = .bool gb) (fun s10 _ _ => q2.length - (intOf s10).toNat)
   case atStart => exact ⟨0, decide (q1 = n), by omega, Gr.refl _, Lib.hid (by simp), rfl, rfl⟩
   case round =>
    obtain ⟨m, gb, hm, hg3, HGB, rfl, rfl⟩ := hrel
    rename World => W3
    have HG3 := Lib.hid (HG2.out.trans hg3)
    have HGW3 := Lib.hid (gB.trans HG3.out)
    have y0 := bB0 _ HG3.out
    have y1 := bB1 _ HG3.out
    have zy1 := blk y1
    have d2 := (HV2.out.gr hg3).cell (k := 2) (by simp)
    have zd2 := blk d2
    have HV3 := Lib.hid (HV2.out.gr hg3)
    have hg3' := Lib.hid hg3
    clear hg3
    by_cases hlm : m < q2.length
    ·obtain ⟨bL, oL, rfl, hbL⟩ := oq23 m hlm
     have cL := HGW3.out.keep (HQ2.out.str_at hlm).1
     have zL := blk cL
     have m0 : (0 : Int) ≤ (m : Int) := by omega
     have m1 : (m : Int) < (q2.length : Int) := by omega
     have iwm : IntKind.i64.wrap ((m : Int) + 1) = (m : Int) + 1 := IntWalk.i64_in _ (by omega)
     obtain ⟨at_, hat⟩ : ∃ a, a = atS g0 q2[m] := ⟨_, rfl⟩
     have hlt2 := atS_lt g0 q2[m]
     rw [← hat] at hlt2
     have hge : -1 ≤ at_ := by rw [hat]; exact idxOf_ge _ _
     have HC : Hid (∀ x : Ext, Calls Try.prog 119 #[.agg #[.slice ag0 g0.length kg0, .slice (some ⟨b, off, none⟩) g1.length kg1], .string q2[m]] (W3.ext x) fun e w' => e = .returned (.int .i64 at_) ∧ Gr (W3.ext x) w') := Lib.hid (fun x => by
      rw [hat]
      exact l12At_any (g0, g1) q2[m] _ (Rd.gr HG.out (HGW3.out.trans gd)))
     have HTK := Lib.hid (show (decide (q1 = n) && (q2.take (m + 1)).all (lowS g0 hs)) = (gb && (decide (0 ≤ at_) && decide (0 < hs.getD at_.toNat 0))) by
      rw [List.take_succ_eq_append_getElem hlm, List.all_append, HGB.out, hat]
      simp [lowS, Bool.and_assoc])
     clear hat
     go_wp2_with fail
     refine wp_region_grown (by kernel_rfl) (by kernel_rfl) ?_
     repeat (go_big_quiet_step (first | (go_at_call 119; exact grown_call (HC.out _))))
     refine wpQuiet_nil ?_
     intro _ hw'
     obtain ⟨nx, hw''⟩ := hw'
     subst hw''
     cases gb with
     | false =>
      go_wp2_with fail
      exact ⟨⟨m + 1, false, by omega, hg3'.out.trans gd, Lib.hid (by rw [HTK.out]; rfl), by go_num, rfl⟩, by simp [intOf]; omega⟩
     | true =>
      by_cases h0 : 0 ≤ at_
      ·obtain ⟨a, rfl⟩ : ∃ a : Nat, at_ = a := ⟨at_.toNat, by omega⟩
       have hal : a < hs.length := by have := HLEN.out; omega
       obtain ⟨bH, oH, rfl, hbH⟩ := oh3 a hal
       have cH := HGW3.out.keep (HH.out.int_at hal).1
       have zH := blk cH
       have a1 : (a : Int) < (hs.length : Int) := by omega
       have HTK2 := Lib.hid (show (decide (q1 = n) && (q2.take (m + 1)).all (lowS g0 hs)) = decide (0 < hs[a]) by
        rw [HTK.out, decide_eq_true h0]
        simp [List.getD_eq_getElem?_getD, List.getElem?_eq_getElem hal])
       go_wp2_with fail
       refine (l1Max_any _ _ _).mono ?_
       rintro e w' ⟨rfl, rfl⟩
       have hmx : max (a : Int) 0 = (a : Int) := by omega
       rw [hmx]
       go_wp2_with fail
       exact ⟨⟨m + 1, decide (0 < hs[a]), by omega, hg3'.out.trans gd, Lib.hid HTK2.out.symm, by go_num, rfl⟩, by simp [intOf]; omega⟩
      ·have HTK2 := Lib.hid (show (decide (q1 = n) && (q2.take (m + 1)).all (lowS g0 hs)) = false by rw [HTK.out, decide_eq_false h0]; rfl)
       go_wp2_with fail
       exact ⟨⟨m + 1, false, by omega, hg3'.out.trans gd, Lib.hid HTK2.out.symm, by go_num, rfl⟩, by simp [intOf]; omega⟩
    ·have hm2 : m = q2.length := by omega
     subst hm2
     have hgd : goodR g0 hs n g1[k] = gb := by rw [HGD.out, HGB.out, List.take_length]
     have HGK := Lib.hid hgd
     clear hgd
     cases gb with
     | true =>
      have HE : Hid (reachS (g0, g1) hs n = true) := Lib.hid (by
       unfold reachS
       rw [List.any_eq_true]
       exact ⟨g1[k], List.getElem_mem hlt, HGK.out⟩)
      go_wp2_with fail
      go_ret
      exact ⟨ret_bool HE.out.symm, HGW3.out⟩
     | false =>
      go_wp2_with fail
      refine ⟨⟨k + 1, by omega, ⟨HG3.out, fun j h hjk => ?_⟩, by go_num⟩, by simp [intOf]; omega⟩
      by_cases hjk2 : j < k
      ·exact HT.out j h hjk2
      ·obtain rfl : j = k := by omega
       exact HGK.out
  ·have HE : Hid (reachS (g0, g1) hs n = false) := Lib.hid (by
    unfold reachS
    rw [List.any_eq_false]
    intro r hr
    obtain ⟨j, hj, rfl⟩ := List.mem_iff_getElem.1 hr
    have := HT.out j hj (by have : j < g1.length := hj; omega)
    simpa using this)
   go_wp2_with fail
   go_ret
   exact ⟨ret_bool HE.out.symm, HGW.out⟩
end Go.Proofs.Ytmfcagcanhmdbaa

namespace Go.Proofs.Ytmfcagcanhmdbaa
open Go.RowKit
set_option linter.unusedVariables false

def OwnC (w0 w : World) (v : Value) (F : List Nat) (xs : List GCell) : Prop :=
 ∃ fps : List (List Nat), OwnR (α := GCell) w0 78 w v fps xs ∧ fps.flatten.Nodup ∧ (∀ b ∈ fps.flatten, w0.heap.size ≤ b) ∧ F = v.ownBlock.toList ++ fps.flatten

theorem OwnC.nil (w0 w : World) : OwnC w0 w (.slice none 0 0) [] [] := ⟨[], OwnR.nil w0 w _, by simp, by simp, rfl⟩
theorem OwnC.gr {w0 w w' : World} {v : Value} {F : List Nat} {xs : List GCell} (h : OwnC w0 w v F xs) (hg : Gr w w') : OwnC w0 w' v F xs := by
 obtain ⟨fps, h1, h2, h3, h4⟩ := h
 exact ⟨fps, h1.gr hg, h2, h3, h4⟩
theorem OwnC.wr {w0 w w' : World} {v : Value} {F fq : List Nat} {xs : List GCell} (h : OwnC w0 w v F xs) (hw : Wr fq w w') (hd : ∀ b ∈ F, b ∉ fq) : OwnC w0 w' v F xs := by
 obtain ⟨fps, h1, h2, h3, rfl⟩ := h
 exact ⟨fps, h1.wr hw (fun b hb => hd b (List.mem_append_right _ hb)) (fun b hb => hd b (List.mem_append_left _ (by rw [hb]; simp))), h2, h3, rfl⟩
theorem OwnC.form {w0 w : World} {v : Value} {F : List Nat} {xs : List GCell} (h : OwnC w0 w v F xs) : ∃ a c, v = .slice a xs.length c := by
 obtain ⟨fps, h1, -⟩ := h
 exact h1.form
theorem OwnC.lt {w0 w : World} {v : Value} {F : List Nat} {xs : List GCell} (h : OwnC w0 w v F xs) : ∀ b ∈ F, b < w.heap.size := by
 obtain ⟨fps, h1, h2, h3, rfl⟩ := h
 intro b hb
 rcases List.mem_append.1 hb with hb | hb
 ·exact (h1.base b (by simpa using hb)).2
 ·exact h1.lt b hb
theorem OwnC.ge {w0 w : World} {v : Value} {F : List Nat} {xs : List GCell} (h : OwnC w0 w v F xs) : ∀ b ∈ F, w0.heap.size ≤ b := by
 obtain ⟨fps, h1, h2, h3, rfl⟩ := h
 intro b hb
 rcases List.mem_append.1 hb with hb | hb
 ·exact (h1.base b (by simpa using hb)).1
 ·exact h3 b hb
theorem OwnC.lower {w0 w1 w : World} {v : Value} {F : List Nat} {xs : List GCell} (h : OwnC w1 w v F xs) (hs : w0.heap.size ≤ w1.heap.size) : OwnC w0 w v F xs := by
 obtain ⟨fps, h1, h2, h3, rfl⟩ := h
 exact ⟨fps, h1.base_eq hs, h2, fun b hb => Nat.le_trans hs (h3 b hb), rfl⟩
theorem OwnC.of_append {w0 w9 : World} {v9 : Value} {fps : List (List Nat)} {fq : List Nat} {xs : List GCell} {x : GCell} (h : OwnR (α := GCell) w0 78 w9 v9 (fps ++ [fq]) (xs ++ [x])) (hnd : fps.flatten.Nodup) (hge : ∀ b ∈ fps.flatten, w0.heap.size ≤ b) (hq : fq.Nodup) (hq2 : ∀ b ∈ fq, w0.heap.size ≤ b ∧ b ∉ fps.flatten) : OwnC w0 w9 v9 (v9.ownBlock.toList ++ (fps.flatten ++ fq)) (xs ++ [x]) := by
 refine ⟨fps ++ [fq], h, ?_, ?_, by simp⟩
 ·rw [List.flatten_append]
  refine List.nodup_append.2 ⟨hnd, by simpa using hq, fun a ha b hb e => ?_⟩
  subst e
  exact (hq2 a (by simpa using hb)).2 ha
 ·intro b hb
  rw [List.flatten_append] at hb
  rcases List.mem_append.1 hb with hb | hb
  ·exact hge b hb
  ·exact (hq2 b (by simpa using hb)).1
theorem OwnC.read {w0 w : World} {v : Value} {F : List Nat} {xs : List GCell} (h : OwnC w0 w v F xs) (hl : xs.length ≤ reachLen) : ∃ fq, SlR fq w v xs ∧ Fresh w0 fq ∧ ∀ b ∈ fq, b ∈ F := by
 obtain ⟨fps, h1, h2, h3, rfl⟩ := h
 obtain ⟨fp, hs, ⟨rfl, rfl⟩ | ⟨b, hb, rfl⟩⟩ := h1.slR hl
 ·exact ⟨[], hs, Fresh.nil _, by simp⟩
 ·refine ⟨_, hs, ⟨List.nodup_cons.2 ⟨h1.apart b hb, h2⟩, fun c hc => ?_⟩, fun c hc => ?_⟩
  ·rcases List.mem_cons.1 hc with rfl | hc
   ·exact (h1.base _ hb).1
   ·exact h3 c hc
  ·rcases List.mem_cons.1 hc with rfl | hc
   ·exact List.mem_append_left _ (by rw [hb]; simp)
   ·exact List.mem_append_right _ hc

theorem SrcR.wr {α : Type} [Rd α] {w w' : World} {x : Value} {gps : List (List Nat)} {ys : List α} {fq : List Nat} (h : SrcR w x gps ys) (k : Wr fq w w') (hb : ∀ b, x.ownBlock = some b → b ∉ fq) (hg : ∀ c ∈ gps.flatten, c ∉ fq) : SrcR w' x gps ys := by
 rcases h with h | ⟨b, off, c, css, rfl, hE, hc⟩
 ·exact .inl h
 ·exact .inr ⟨b, off, c, css, rfl, hE.mono (k.sameOn hE.lt hg), fun j u hj => k.keepC (hc j u hj) (hb b rfl)⟩

def DRow (rest : List Value) (w : World) (b : Nat) (xs : List Int) : Prop := VRow w b 3 (xs.map (Value.int .i64) ++ rest)
theorem DRow.lt {rest : List Value} {w : World} {b : Nat} {xs : List Int} (h : DRow rest w b xs) : b < w.heap.size := VRow.lt h
theorem DRow.cell {rest : List Value} {w : World} {b : Nat} {xs : List Int} (h : DRow rest w b xs) {k : Nat} (hk : k < xs.length) : w.cell? ⟨b, k, none⟩ = some (.int .i64 xs[k]) := by
 have h1 := VRow.cell h (k := k) (by simp; omega)
 rw [h1]
 simp [List.getElem_append_left, hk]
theorem DRow.set {rest : List Value} {w : World} {b : Nat} {xs : List Int} (h : DRow rest w b xs) {k : Nat} (hk : k < xs.length) (y : Int) : DRow rest (w.setCell ⟨b, k, none⟩ (.int .i64 y)) b (xs.set k y) := by
 have h1 := VRow.set h k (.int .i64 y)
 unfold DRow
 rw [List.map_set]
 rw [List.set_append_left _ _ (by simpa using hk)] at h1
 exact h1
theorem DRow.of_own {w0 w : World} {v : Value} {fps : List (List Nat)} {xs : List Int} (h : OwnR (α := Int) w0 3 w v fps xs) (hn : xs ≠ []) : ∃ g cap rest, v = .slice (some ⟨g, 0, none⟩) xs.length cap ∧ w0.heap.size ≤ g ∧ g < w.heap.size ∧ DRow rest w g xs := by
 have hb := h.base
 obtain ⟨v', e1, ho, -, -⟩ := h.toORow
 obtain rfl : v = v' := by simpa using e1
 rcases ho.2 with ⟨-, h0⟩ | ⟨g, cap, cur, rfl, h1, h2, h3, h4, h5, h6⟩
 ·exact absurd (List.eq_nil_of_length_eq_zero h0) hn
 ·have h7 := hb g rfl
  refine ⟨g, cap, cur.toList.drop xs.length, rfl, h7.1, h7.2, ?_⟩
  unfold DRow VRow
  rw [h2]
  have h8 : cur.toList.take xs.length = xs.map (Value.int .i64) := by
   have h9 : cur.toList.take (xs.length * 1) = xs.map (Value.int .i64) := h6
   rwa [Nat.mul_one] at h9
  rw [← h8, List.take_append_drop]

def CopiedS (w : World) (xs : List GCell) (e : Ending) (w' : World) : Prop := ∃ v F, e = .returned (.agg #[v]) ∧ OwnC w w' v F xs ∧ Gr w w'
end Go.Proofs.Ytmfcagcanhmdbaa
