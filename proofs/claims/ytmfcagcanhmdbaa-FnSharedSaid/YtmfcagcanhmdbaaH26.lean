/- Symbols of a rule, types of operators, an operator's expression: the reference's. Symbols and rules by their names: the reference hands back copies. Made by mk_look.py. Occurrences of a rule: the reference's, some of them. The occurrences that a rule must define: the reference's. No condition. -/
import Derived.Test.YtmfcagcanhmdbaaH25
import Derived.Test.YtmfcagcanhmdbaaH22
import Derived.Test.YtmfcagcanhmdbaaH23
import Derived.Deep.RegionHeld3
import Derived.Deep.DeepCutAuto
namespace Go.Proofs.Ytmfcagcanhmdbaa
open Go.RowKit
set_option linter.unusedVariables false
set_option linter.unusedSimpArgs false
variable {d : Nat}

def SomeS (w : World) (e : Ending) (w' : World) : Prop := ∃ s : ByteArray, e = .returned (.string s) ∧ Gr w w'
set_option maxRecDepth 10000 in
set_option maxHeartbeats 4000000 in
theorem symbolAt_some {fr : List Nat} {cr : Array Value} (r : GRule d) (p : Int) (w : World) (hr : Rd.rd fr w cr.toList r) : Calls Try.prog 102 #[.agg cr, .int .i64 p] w (SomeS w) := by
 have HR := Lib.hid hr
 obtain ⟨r0, r1, r2, r3, r4, r5⟩ := r
 obtain ⟨vr2, fr2, vr4, fr4, vr5, fr5, rfl, hfpr, hr0, hr1, hr2, hr4, hr5⟩ := rdRule_inv r0 r1 r2 r3 r4 r5 hr
 have FPr := Lib.hid hfpr
 clear hfpr
 obtain ⟨ar2, kr2, rfl, or21, or22, or23⟩ := hr2.open
 obtain ⟨ar4, kr4, rfl, or41, or42, or43⟩ := hr4.open
 obtain ⟨ar5, kr5, rfl, or51, or52, or53⟩ := hr5.open
 clear hr
 by_cases h0 : p = 0
 ·subst h0
  go_enter Try.func102, Try.ntmps102
  go_wp2_with fail
  go_ret
  exact ⟨_, rfl, gd⟩
 ·have n0 : (p == 0) = false := by simpa using h0
  by_cases hin : 1 ≤ p ∧ p ≤ (r2.length : Int)
  ·obtain ⟨n, hn⟩ : ∃ n : Nat, p - 1 = n := ⟨(p - 1).toNat, by omega⟩
   have hlt : n < r2.length := by omega
   obtain ⟨b, off, rfl, hb⟩ := or23 n hlt
   have c1 := (hr2.str_at hlt).1
   have z1 := blk c1
   have i0 : (0 : Int) ≤ (n : Int) := by omega
   have i1 : (n : Int) < (r2.length : Int) := by omega
   have iw : IntKind.i64.wrap (p - 1) = (n : Int) := by rw [IntWalk.i64_in _ (by omega)]; exact hn
   have HI := Lib.hid hin
   clear hin hn
   go_enter Try.func102, Try.ntmps102
   go_wp2_with fail
   refine (l1In_yes _ _ _ _ HI.out.1 HI.out.2).mono ?_
   rintro e w' ⟨rfl, x1, rfl⟩
   go_wp2_with fail
   go_ret
   exact ⟨_, rfl, gd⟩
  ·have hor : p < 1 ∨ (r2.length : Int) < p := by omega
   have HI := Lib.hid hor
   clear hin hor
   go_enter Try.func102, Try.ntmps102
   go_wp2_with fail
   refine (l1In_no _ _ _ _ HI.out).mono ?_
   rintro e w' ⟨rfl, x1, rfl⟩
   go_wp2_with fail
   go_ret
   exact ⟨_, rfl, gd⟩

def SomeT (w : World) (e : Ending) (w' : World) : Prop := ∃ a b c : Int, e = .returned (.tuple #[.int .i64 a, .int .i64 b, .int .i64 c]) ∧ 0 ≤ a ∧ a ≤ 3 ∧ 0 ≤ b ∧ b ≤ 3 ∧ w = w'
set_option maxRecDepth 10000 in
set_option maxHeartbeats 4000000 in
theorem operandTypes_some (n : Int) (w : World) : Calls Try.prog 110 #[.int .i64 n] w (SomeT w) := by
 go_enter Try.func110, Try.ntmps110
 go_wp2_with (go_at_call 31; refine (l1In_any _ _ _ _).mono ?_; rintro e w' ⟨rfl, rfl⟩)
 go_ways
 all_goals
  first | (refine bodyPost_ret (v := .tuple #[.int .i64 1, .int .i64 1, .int .i64 1]) ?_ rfl ⟨_, _, _, rfl, by decide, by decide, by decide, by decide, rfl⟩; simp [results, Try.results110, go_sem]; done) | (refine bodyPost_ret (v := .tuple #[.int .i64 2, .int .i64 2, .int .i64 2]) ?_ rfl ⟨_, _, _, rfl, by decide, by decide, by decide, by decide, rfl⟩; simp [results, Try.results110, go_sem]; done) | (refine bodyPost_ret (v := .tuple #[.int .i64 1, .int .i64 1, .int .i64 3]) ?_ rfl ⟨_, _, _, rfl, by decide, by decide, by decide, by decide, rfl⟩; simp [results, Try.results110, go_sem]; done) | (refine bodyPost_ret (v := .tuple #[.int .i64 2, .int .i64 1, .int .i64 3]) ?_ rfl ⟨_, _, _, rfl, by decide, by decide, by decide, by decide, rfl⟩; simp [results, Try.results110, go_sem]; done) | (refine bodyPost_ret (v := .tuple #[.int .i64 2, .int .i64 1, .int .i64 2]) ?_ rfl ⟨_, _, _, rfl, by decide, by decide, by decide, by decide, rfl⟩; simp [results, Try.results110, go_sem]; done) | (refine bodyPost_ret (v := .tuple #[.int .i64 0, .int .i64 0, .int .i64 0]) ?_ rfl ⟨_, _, _, rfl, by decide, by decide, by decide, by decide, rfl⟩; simp [results, Try.results110, go_sem]; done)

def OpAt (d : Nat) (fa fb : List Nat) (a b : GExpr d) (w : World) (e : Ending) (w' : World) : Prop :=
 ∃ (cs : Array Value) (fq : List Nat) (x : GExpr (d + 1)), e = .returned (.agg cs) ∧ Rd.rd fq w' cs.toList x ∧ wtExpr x ≤ 2 + wtExpr a + wtExpr b ∧ (∀ c ∈ fq, c ∈ fa ∨ c ∈ fb ∨ w.heap.size ≤ c) ∧ Gr w w'
set_option maxRecDepth 10000 in
set_option maxHeartbeats 4000000 in
theorem l4Op_any {fx fy : List Nat} {cx cy : Array Value} (op : Int) (x y : GExpr d) (w : World) (hop : (Lit.int .i64 op).wf = true) (hx : Rd.rd fx w cx.toList x) (hy : Rd.rd fy w cy.toList y) :
  Calls Try.prog 111 #[.int .i64 op, .agg cx, .agg cy] w (OpAt d fx fy x y w) := by
 have HX := Lib.hid hx
 have HY := Lib.hid hy
 obtain ⟨x0, x1, x2, x3, x4, x5, xa, xl, xc, rfl⟩ := rdExpr_shape hx
 obtain ⟨y0, y1, y2, y3, y4, y5, ya, yl, yc, rfl⟩ := rdExpr_shape hy
 clear hx hy
 go_enter Try.func111, Try.ntmps111
 go_wp2_with fail
 generalize hA : ((w.alloc (.cells #[.int .i64 x0, .int .i64 x1, .int .i64 x2, .int .i64 x3, .string x4, .string x5, .slice xa xl xc] 157)).alloc (.cells #[.int .i64 y0, .int .i64 y1, .int .i64 y2, .int .i64 y3, .string y4, .string y5, .slice ya yl yc] 157)).alloc (.cells #[.int .i64 4, .int .i64 op, .int .i64 0, .int .i64 0, .string ⟨#[]⟩, .string ⟨#[]⟩, .slice (some ⟨w.heap.size + 1 + 1 + 1, 0, none⟩) 2 2] 157) = A
 have gA : Gr w A := by rw [← hA]; exact gd
 have sA : A.heap.size = w.heap.size + 1 + 1 + 1 := by rw [← hA]; simp
 have vA : VRow A (w.heap.size + 1 + 1) 157 [.int .i64 4, .int .i64 op, .int .i64 0, .int .i64 0, .string ⟨#[]⟩, .string ⟨#[]⟩, .slice (some ⟨w.heap.size + 1 + 1 + 1, 0, none⟩) 2 2] := by rw [← hA]; exact VRow.new (by simp)
 have hE := (Els.one (α := GE (d + 1)) (Rd.gr HX.out gA)).app (Els.one (α := GE (d + 1)) (Rd.gr HY.out gA))
 have hO := OwnR.litN (w0 := A) 157 (Nat.le_refl _) (g := w.heap.size + 1 + 1 + 1) sA.symm hE (cs := #[.int .i64 x0, .int .i64 x1, .int .i64 x2, .int .i64 x3, .string x4, .string x5, .slice xa xl xc, .int .i64 y0, .int .i64 y1, .int .i64 y2, .int .i64 y3, .string y4, .string y5, .slice ya yl yc]) rfl (by show 2 ≤ maxLen; decide)
 obtain ⟨fp, hs, hf⟩ := hO.slR (by show 2 ≤ reachLen; decide)
 generalize hF : A.alloc (.cells #[.int .i64 x0, .int .i64 x1, .int .i64 x2, .int .i64 x3, .string x4, .string x5, .slice xa xl xc, .int .i64 y0, .int .i64 y1, .int .i64 y2, .int .i64 y3, .string y4, .string y5, .slice ya yl yc] 157) = WF at hs
 have gF : Gr A WF := by rw [← hF]; exact gd
 have vF := vA.gr gF
 have r0 := vF.cell (k := 0) (by simp)
 have r1 := vF.cell (k := 1) (by simp)
 have r2 := vF.cell (k := 2) (by simp)
 have r3 := vF.cell (k := 3) (by simp)
 have r4 := vF.cell (k := 4) (by simp)
 have r5 := vF.cell (k := 5) (by simp)
 have r6 := vF.cell (k := 6) (by simp)
 clear hA hF vF vA
 refine bodyPost_ret (v := .agg #[.int .i64 4, .int .i64 op, .int .i64 0, .int .i64 0, .string ⟨#[]⟩, .string ⟨#[]⟩, .slice (some ⟨w.heap.size + 1 + 1 + 1, 0, none⟩) 2 2]) (by simp [results, Try.results111, go_sem, r0, r1, r2, r3, r4, r5, r6]) rfl ⟨_, _, _, rfl, rdExpr_mk 4 op 0 0 ⟨#[]⟩ ⟨#[]⟩ _ (by decide) hop (by decide) (by decide) (by decide) (by decide) hs, ?_, fun c hc => ?_, gA.trans gF⟩
 ·show 0 + 0 + wtL (wtE (d + 1)) [x, y] ≤ _
  have h3 : wtL (wtE (d + 1)) [x, y] = 2 + (wtExpr x + (wtExpr y + 0)) := rfl
  rw [h3]
  omega
 ·have hc' : c ∈ fp := by simpa using hc
  rcases hf with ⟨h, -⟩ | ⟨g, h1, h2⟩
  ·cases h
  ·rw [h2] at hc'
   rcases List.mem_cons.1 hc' with h | h
   ·right; right
    have := (hO.base g h1).1
    omega
   ·have h3 : c ∈ fx ∨ c ∈ fy := by simpa using h
    exact h3.imp id Or.inl
end Go.Proofs.Ytmfcagcanhmdbaa

namespace Go.Proofs.Ytmfcagcanhmdbaa
open Go.RowKit
variable {d : Nat}

def FoundF {α : Type} [Rd α] (w : World) (o : Option α) (z : α) (e : Ending) (w' : World) : Prop :=
 ∃ es fq, e = .returned (.tuple #[.agg es, .bool o.isSome]) ∧ Rd.rd fq w' es.toList (o.getD z) ∧ Fresh w fq ∧ Gr w w'

set_option maxRecDepth 10000 in
set_option maxHeartbeats 4000000 in
theorem specFindSymbol_new {fx : List Nat} {cx : Array Value} (x : (GGrammar d)) (n : ByteArray) (w : World) (hx : Rd.rd fx w cx.toList x) (hl : wtGrammar x ≤ 1048576) :
  Calls Try.prog 101 #[.agg cx, .string n] w (FoundF w (lookS x.1 n) zeroS) := by
 have HX := Lib.hid hx
 obtain ⟨x0, x1⟩ := x
 obtain ⟨vx0, fx0, vx1, fx1, rfl, hfpx, hx0, hx1⟩ := rdGrammar_inv x0 x1 hx
 have FPx := Lib.hid hfpx
 clear hfpx
 obtain ⟨ax0, kx0, rfl, ox01, ox02, ox03⟩ := hx0.open
 obtain ⟨ax1, kx1, rfl, ox11, ox12, ox13⟩ := hx1.open
 clear hx
 have HWT := Lib.hid hl
 clear hl
 go_enter Try.func101, Try.ntmps101
 go_wp2_with fail
 go_loopw [6] (fun s6 wr => ∃ k : Nat, k ≤ x0.length ∧ Hid (∀ j (h : j < x0.length), j < k → decide (x0[j].1 = n) = false) ∧ Gr ((w.alloc (.cells #[.slice ax0 x0.length kx0, .slice ax1 x1.length kx1] 114)).alloc (.cells #[.string ByteArray.empty, .slice none 0 0] 133)) wr ∧ s6 = .int .i64 k) (fun s6 _ => x0.length - (intOf s6).toNat)
 case atStart => exact ⟨0, by omega, Lib.hid (by omega), Gr.refl _, rfl⟩
 case round =>
  obtain ⟨k, hk, ht, ⟨y, rfl⟩, rfl⟩ := hrel
  by_cases hlt : k < x0.length
  ·have hlt2 := hlt
   obtain ⟨b, off, rfl, hbb⟩ := ox03 k hlt
   obtain ⟨csq, feq, hcq, hrq, hsb⟩ := hx0.at hlt
   obtain ⟨yq, hyq⟩ : ∃ y, y = x0[k] := ⟨_, rfl⟩
   rw [← hyq] at hrq
   have HYq := Lib.hid hyq
   have HRq := Lib.hid hrq
   obtain ⟨q0, q1⟩ := yq
   obtain ⟨vq1, fq1, hcsq, -, hq0, hq1⟩ := rdSymbol_inv (cs := csq.toArray) q0 q1 (by simpa using hrq)
   obtain rfl : csq = [.string q0, vq1] := by have := congrArg Array.toList hcsq; simpa using this
   obtain ⟨aq1, kq1, rfl, oq11, oq12, oq13⟩ := hq1.open
   have qz0 : w.cell? ⟨b, off + k * 2, none⟩ = some (.string q0) := by simpa [Rd.n] using hcq 0 _ rfl
   have qz1 : w.cell? ⟨b, off + k * 2 + 1, none⟩ = some (.slice aq1 q1.length kq1) := hcq 1 _ rfl
   have qzb := blk qz0
   clear hcsq hcq hrq hyq
   have HSB := Lib.hid hsb
   clear hsb
   by_cases hkey : q0 = n
   ·skip
    obtain rfl := hkey
    have hl : lookS x0 q0 = some x0[k] := find_at hlt (by rw [← HYq.out]; simp) ht.out
    have HL := Lib.hid hl
    clear hl
    have hw : wtSymbol x0[k] ≤ 1048576 := Nat.le_trans (wtL_at wtSymbol x0 hlt) (by have h : wtSymbolS x0 + wtRuleS x1 ≤ 1048576 := HWT.out; exact Nat.le_trans (Nat.le_add_right _ _) h)
    rw [← HYq.out] at hw
    have HW := Lib.hid hw
    clear hw
    go_wp2_with fail
    refine (l10Symbol_any (q0, q1) _ (Rd.gr HRq.out gd) HW.out).mono ?_
    rintro e w' ⟨es, fq, rfl, hr, hf, z1, rfl⟩
    have HR2 := Lib.hid hr
    have HF2 := Lib.hid hf
    obtain ⟨r0, ar1, lr1, kr1, rfl⟩ := rdSymbol_shape hr
    clear hr hf
    go_wp2_with fail
    exact bodyPost_ret (v := .tuple #[.agg #[.string r0, .slice ar1 lr1 kr1], .bool true])
     (by simp [results, Try.results101, go_sem]) rfl ⟨_, fq, by rw [HL.out]; rfl, by rw [HL.out, Option.getD_some, ← HYq.out]; exact Rd.moved HR2.out HF2.out gd (by simp), HF2.out.of_le (by simp <;> omega), gd⟩
   ·have E := Lib.hid hkey
    have e : (q0.toList == n.toList) = false := by simpa using fun e => hkey (str_inj e)
    clear hkey
    go_wp2_with fail
    refine ⟨⟨k + 1, by omega, Lib.hid fun j hj hjk => ?_, gd, by go_num⟩, by simp [intOf]; omega⟩
    by_cases hjk2 : j < k
    ·exact ht.out j hj hjk2
    ·obtain rfl : j = k := by omega
     rw [← HYq.out]
     exact decide_eq_false E.out
  ·have hn : lookS x0 n = none := find_none fun j hj => ht.out j hj (by omega)
   have HL := Lib.hid hn
   clear hn
   go_wp2_with fail
   exact bodyPost_ret (v := .tuple #[.agg #[.string ⟨#[]⟩, .slice none 0 0], .bool false])
    (by simp [results, Try.results101, go_sem]) rfl ⟨_, _, by rw [HL.out]; rfl, by rw [HL.out]; exact zeroS_rd _, Fresh.nil _, gd⟩

set_option maxRecDepth 10000 in
set_option maxHeartbeats 4000000 in
theorem specFindRule_new {fx : List Nat} {cx : Array Value} (x : (GGrammar d)) (n : ByteArray) (w : World) (hx : Rd.rd fx w cx.toList x) (hl : wtGrammar x ≤ 1048576) :
  Calls Try.prog 118 #[.agg cx, .string n] w (FoundF w (lookR x.2 n) zeroR) := by
 have HX := Lib.hid hx
 obtain ⟨x0, x1⟩ := x
 obtain ⟨vx0, fx0, vx1, fx1, rfl, hfpx, hx0, hx1⟩ := rdGrammar_inv x0 x1 hx
 have FPx := Lib.hid hfpx
 clear hfpx
 obtain ⟨ax0, kx0, rfl, ox01, ox02, ox03⟩ := hx0.open
 obtain ⟨ax1, kx1, rfl, ox11, ox12, ox13⟩ := hx1.open
 clear hx
 have HWT := Lib.hid hl
 clear hl
 go_enter Try.func118, Try.ntmps118
 go_wp2_with fail
 go_loopw [6] (fun s6 wr => ∃ k : Nat, k ≤ x1.length ∧ Hid (∀ j (h : j < x1.length), j < k → decide (x1[j].1 = n) = false) ∧ Gr ((w.alloc (.cells #[.slice ax0 x0.length kx0, .slice ax1 x1.length kx1] 114)).alloc (.cells #[.string ByteArray.empty, .string ByteArray.empty, .slice none 0 0, .bool false, .slice none 0 0, .slice none 0 0] 138)) wr ∧ s6 = .int .i64 k) (fun s6 _ => x1.length - (intOf s6).toNat)
 case atStart => exact ⟨0, by omega, Lib.hid (by omega), Gr.refl _, rfl⟩
 case round =>
  obtain ⟨k, hk, ht, ⟨y, rfl⟩, rfl⟩ := hrel
  by_cases hlt : k < x1.length
  ·have hlt2 := hlt
   obtain ⟨b, off, rfl, hbb⟩ := ox13 k hlt
   obtain ⟨csq, feq, hcq, hrq, hsb⟩ := hx1.at hlt
   obtain ⟨yq, hyq⟩ : ∃ y, y = x1[k] := ⟨_, rfl⟩
   rw [← hyq] at hrq
   have HYq := Lib.hid hyq
   have HRq := Lib.hid hrq
   obtain ⟨q0, q1, q2, q3, q4, q5⟩ := yq
   obtain ⟨vq2, fq2, vq4, fq4, vq5, fq5, hcsq, -, hq0, hq1, hq2, hq4, hq5⟩ := rdRule_inv (cs := csq.toArray) q0 q1 q2 q3 q4 q5 (by simpa using hrq)
   obtain rfl : csq = [.string q0, .string q1, vq2, .bool q3, vq4, vq5] := by have := congrArg Array.toList hcsq; simpa using this
   obtain ⟨aq2, kq2, rfl, oq21, oq22, oq23⟩ := hq2.open
   obtain ⟨aq4, kq4, rfl, oq41, oq42, oq43⟩ := hq4.open
   obtain ⟨aq5, kq5, rfl, oq51, oq52, oq53⟩ := hq5.open
   have qz0 : w.cell? ⟨b, off + k * 6, none⟩ = some (.string q0) := by simpa [Rd.n] using hcq 0 _ rfl
   have qz1 : w.cell? ⟨b, off + k * 6 + 1, none⟩ = some (.string q1) := hcq 1 _ rfl
   have qz2 : w.cell? ⟨b, off + k * 6 + 2, none⟩ = some (.slice aq2 q2.length kq2) := hcq 2 _ rfl
   have qz3 : w.cell? ⟨b, off + k * 6 + 3, none⟩ = some (.bool q3) := hcq 3 _ rfl
   have qz4 : w.cell? ⟨b, off + k * 6 + 4, none⟩ = some (.slice aq4 q4.length kq4) := hcq 4 _ rfl
   have qz5 : w.cell? ⟨b, off + k * 6 + 5, none⟩ = some (.slice aq5 q5.length kq5) := hcq 5 _ rfl
   have qzb := blk qz0
   clear hcsq hcq hrq hyq
   have HSB := Lib.hid hsb
   clear hsb
   by_cases hkey : q0 = n
   ·skip
    obtain rfl := hkey
    have hl : lookR x1 q0 = some x1[k] := find_at hlt (by rw [← HYq.out]; simp) ht.out
    have HL := Lib.hid hl
    clear hl
    have hw : wtRule x1[k] ≤ 1048576 := Nat.le_trans (wtL_at wtRule x1 hlt) (by have h : wtSymbolS x0 + wtRuleS x1 ≤ 1048576 := HWT.out; exact Nat.le_trans (Nat.le_add_left _ _) h)
    rw [← HYq.out] at hw
    have HW := Lib.hid hw
    clear hw
    go_wp2_with fail
    refine (l9Copy_any (q0, q1, q2, q3, q4, q5) _ (Rd.gr HRq.out gd) HW.out).mono ?_
    rintro e w' ⟨es, fq, rfl, hr, hf, z1, rfl⟩
    have HR2 := Lib.hid hr
    have HF2 := Lib.hid hf
    obtain ⟨r0, r1, ar2, lr2, kr2, r3, ar4, lr4, kr4, ar5, lr5, kr5, rfl⟩ := rdRule_shape hr
    clear hr hf
    go_wp2_with fail
    exact bodyPost_ret (v := .tuple #[.agg #[.string r0, .string r1, .slice ar2 lr2 kr2, .bool r3, .slice ar4 lr4 kr4, .slice ar5 lr5 kr5], .bool true])
     (by simp [results, Try.results118, go_sem]) rfl ⟨_, fq, by rw [HL.out]; rfl, by rw [HL.out, Option.getD_some, ← HYq.out]; exact Rd.moved HR2.out HF2.out gd (by simp), HF2.out.of_le (by simp <;> omega), gd⟩
   ·have E := Lib.hid hkey
    have e : (q0.toList == n.toList) = false := by simpa using fun e => hkey (str_inj e)
    clear hkey
    go_wp2_with fail
    refine ⟨⟨k + 1, by omega, Lib.hid fun j hj hjk => ?_, gd, by go_num⟩, by simp [intOf]; omega⟩
    by_cases hjk2 : j < k
    ·exact ht.out j hj hjk2
    ·obtain rfl : j = k := by omega
     rw [← HYq.out]
     exact decide_eq_false E.out
  ·have hn : lookR x1 n = none := find_none fun j hj => ht.out j hj (by omega)
   have HL := Lib.hid hn
   clear hn
   go_wp2_with fail
   exact bodyPost_ret (v := .tuple #[.agg #[.string ⟨#[]⟩, .string ⟨#[]⟩, .slice none 0 0, .bool false, .slice none 0 0, .slice none 0 0], .bool false])
    (by simp [results, Try.results118, go_sem]) rfl ⟨_, _, by rw [HL.out]; rfl, by rw [HL.out]; exact zeroR_rd _, Fresh.nil _, gd⟩

end Go.Proofs.Ytmfcagcanhmdbaa

namespace Go.Proofs.Ytmfcagcanhmdbaa
open Go.RowKit
set_option linter.unusedVariables false
set_option linter.unusedSimpArgs false
variable {d : Nat}

def SymOK (s : GSymbol) : Prop := s.2.length ≤ 4 ∧ ∀ a ∈ s.2, a.1.size ≤ 64
theorem look_ok {xs : List GSymbol} (h : ∀ s ∈ xs, SymOK s) (n : ByteArray) : SymOK ((lookS xs n).getD zeroS) := by
 cases hl : lookS xs n with
 | none => exact ⟨by simp [zeroS], by simp [zeroS]⟩
 | some y => exact h y (List.mem_of_find?_eq_some hl)

def BoxSy (W : World) (s : Value) (wx : World) : Prop :=
 ∃ (g : Nat) (a : Option Addr) (c : Nat) (fq : List Nat) (y : List GAttribute), s = .pointer (some ⟨g, 0, none⟩) ∧ Gr W wx ∧ W.heap.size ≤ g ∧ wx.cell? ⟨g, 1, none⟩ = some (.slice a y.length c) ∧ SlR fq wx (.slice a y.length c) y ∧ y.length ≤ 4 ∧ (∀ z ∈ y, z.1.size ≤ 64) ∧ ∀ b ∈ fq, W.heap.size ≤ b ∧ b ≠ g

def OccsAt (K : Nat) (w : World) (e : Ending) (w' : World) : Prop :=
 ∃ (v : Value) (fq : List Nat) (os : List GOccurrence), e = .returned v ∧ SlR fq w' v os ∧ os.length ≤ K ∧ (∀ o ∈ os, o.2.size ≤ 64) ∧ (∀ b ∈ fq, w.heap.size ≤ b) ∧ Gr w w'

def OfIn (B : World) (gb : Nat) (v1 : Value) (fs1 : List Nat) (s1 : List GAttribute) (K j : Nat) (v : Value) (wr : World) : Prop :=
 ∃ (fps : List (List Nat)) (os : List GOccurrence), fps.flatten = [] ∧ Gr B wr ∧ OwnR (α := GOccurrence) B 152 wr v fps os ∧ os.length ≤ K + j ∧ (∀ o ∈ os, o.2.size ≤ 64) ∧ wr.cell? ⟨gb, 1, none⟩ = some v1 ∧ SlR fs1 wr v1 s1 ∧ ∀ b ∈ v.ownBlock.toList, b ≠ gb ∧ b ∉ fs1

theorem Try.infoOccC : (Try.prog.info? 152).map (fun i => (i.zero, i.size, i.bytes)) = some (some (.agg #[.int .i64 0, .string ByteArray.empty]), 2, 24) := by kernel_rfl

set_option maxRecDepth 100000 in
set_option maxHeartbeats 16000000 in
theorem l10Of_any {fg fr : List Nat} {cg cr : Array Value} (g : GGrammar d) (r : GRule d) (kind : Int) (w : World) (hg : Rd.rd fg w cg.toList g) (hr : Rd.rd fr w cr.toList r) (hl : wtGrammar g ≤ 1048576) (hs : ∀ s ∈ g.1, SymOK s) (hn : r.2.2.1.length ≤ 1000) :
    Calls Try.prog 107 #[.agg cg, .agg cr, .int .i64 kind] w (OccsAt 8192 w) := by
  obtain ⟨i0, hi, hz0, hz1, hz2⟩ := info_parts Try.infoOccC
  have HZ := Lib.hid (And.intro hi (And.intro hz0 (And.intro hz1 hz2)))
  clear hi hz0 hz1 hz2
  have HWT := Lib.hid hl
  have HS := Lib.hid hs
  clear hl hs
  have HG := Lib.hid hg
  obtain ⟨g0, g1⟩ := g
  obtain ⟨vg0, fg0, vg1, fg1, rfl, hfpg, hg0, hg1⟩ := rdGrammar_inv g0 g1 hg
  have FPg := Lib.hid hfpg
  clear hfpg
  obtain ⟨ag0, kg0, rfl, og01, og02, og03⟩ := hg0.open
  obtain ⟨ag1, kg1, rfl, og11, og12, og13⟩ := hg1.open
  clear hg
  have HR := Lib.hid hr
  obtain ⟨r0, r1, r2, r3, r4, r5⟩ := r
  obtain ⟨vr2, fr2, vr4, fr4, vr5, fr5, rfl, hfpr, hr0, hr1, hr2, hr4, hr5⟩ := rdRule_inv r0 r1 r2 r3 r4 r5 hr
  have FPr := Lib.hid hfpr
  clear hfpr
  obtain ⟨ar2, kr2, rfl, or21, or22, or23⟩ := hr2.open
  obtain ⟨ar4, kr4, rfl, or41, or42, or43⟩ := hr4.open
  obtain ⟨ar5, kr5, rfl, or51, or52, or53⟩ := hr5.open
  clear hr
  have hn' : r2.length ≤ 1000 := hn
  clear hn
  go_enter Try.func107, Try.ntmps107
  go_wp2_with fail
  generalize hB : ((w.alloc (.cells #[.slice ag0 g0.length kg0, .slice ag1 g1.length kg1] 114)).alloc (.cells #[.string r0, .string r1, .slice ar2 r2.length kr2, .bool r3, .slice ar4 r4.length kr4, .slice ar5 r5.length kr5] 138)) = B
  have gB : Gr w B := by rw [← hB]; exact gd
  have bB0 : ∀ w' : World, Gr B w' → w'.cell? ⟨w.heap.size, 0, none⟩ = some (.slice ag0 g0.length kg0) := fun w' hg => hg.keep (by rw [← hB]; repeat (first | ((with_reducible refine box_cell ?_ ?_) <;> first | omega | (simp; done) | (simp; omega) | rfl) | (with_reducible refine Gr.keep (Gr.alloc (Gr.refl _) _) ?_) | (with_reducible refine Gr.keep (Gr.ext (Gr.refl _) _) ?_) | (with_reducible refine Gr.keep (Gr.drew (Gr.refl _)) ?_)))
  have bB1 : ∀ w' : World, Gr B w' → w'.cell? ⟨w.heap.size, 1, none⟩ = some (.slice ag1 g1.length kg1) := fun w' hg => hg.keep (by rw [← hB]; repeat (first | ((with_reducible refine box_cell ?_ ?_) <;> first | omega | (simp; done) | (simp; omega) | rfl) | (with_reducible refine Gr.keep (Gr.alloc (Gr.refl _) _) ?_) | (with_reducible refine Gr.keep (Gr.ext (Gr.refl _) _) ?_) | (with_reducible refine Gr.keep (Gr.drew (Gr.refl _)) ?_)))
  have bB2 : ∀ w' : World, Gr B w' → w'.cell? ⟨w.heap.size + 1, 0, none⟩ = some (.string r0) := fun w' hg => hg.keep (by rw [← hB]; repeat (first | ((with_reducible refine box_cell ?_ ?_) <;> first | omega | (simp; done) | (simp; omega) | rfl) | (with_reducible refine Gr.keep (Gr.alloc (Gr.refl _) _) ?_) | (with_reducible refine Gr.keep (Gr.ext (Gr.refl _) _) ?_) | (with_reducible refine Gr.keep (Gr.drew (Gr.refl _)) ?_)))
  have bB3 : ∀ w' : World, Gr B w' → w'.cell? ⟨w.heap.size + 1, 1, none⟩ = some (.string r1) := fun w' hg => hg.keep (by rw [← hB]; repeat (first | ((with_reducible refine box_cell ?_ ?_) <;> first | omega | (simp; done) | (simp; omega) | rfl) | (with_reducible refine Gr.keep (Gr.alloc (Gr.refl _) _) ?_) | (with_reducible refine Gr.keep (Gr.ext (Gr.refl _) _) ?_) | (with_reducible refine Gr.keep (Gr.drew (Gr.refl _)) ?_)))
  have bB4 : ∀ w' : World, Gr B w' → w'.cell? ⟨w.heap.size + 1, 2, none⟩ = some (.slice ar2 r2.length kr2) := fun w' hg => hg.keep (by rw [← hB]; repeat (first | ((with_reducible refine box_cell ?_ ?_) <;> first | omega | (simp; done) | (simp; omega) | rfl) | (with_reducible refine Gr.keep (Gr.alloc (Gr.refl _) _) ?_) | (with_reducible refine Gr.keep (Gr.ext (Gr.refl _) _) ?_) | (with_reducible refine Gr.keep (Gr.drew (Gr.refl _)) ?_)))
  have bB5 : ∀ w' : World, Gr B w' → w'.cell? ⟨w.heap.size + 1, 3, none⟩ = some (.bool r3) := fun w' hg => hg.keep (by rw [← hB]; repeat (first | ((with_reducible refine box_cell ?_ ?_) <;> first | omega | (simp; done) | (simp; omega) | rfl) | (with_reducible refine Gr.keep (Gr.alloc (Gr.refl _) _) ?_) | (with_reducible refine Gr.keep (Gr.ext (Gr.refl _) _) ?_) | (with_reducible refine Gr.keep (Gr.drew (Gr.refl _)) ?_)))
  have bB6 : ∀ w' : World, Gr B w' → w'.cell? ⟨w.heap.size + 1, 4, none⟩ = some (.slice ar4 r4.length kr4) := fun w' hg => hg.keep (by rw [← hB]; repeat (first | ((with_reducible refine box_cell ?_ ?_) <;> first | omega | (simp; done) | (simp; omega) | rfl) | (with_reducible refine Gr.keep (Gr.alloc (Gr.refl _) _) ?_) | (with_reducible refine Gr.keep (Gr.ext (Gr.refl _) _) ?_) | (with_reducible refine Gr.keep (Gr.drew (Gr.refl _)) ?_)))
  have bB7 : ∀ w' : World, Gr B w' → w'.cell? ⟨w.heap.size + 1, 5, none⟩ = some (.slice ar5 r5.length kr5) := fun w' hg => hg.keep (by rw [← hB]; repeat (first | ((with_reducible refine box_cell ?_ ?_) <;> first | omega | (simp; done) | (simp; omega) | rfl) | (with_reducible refine Gr.keep (Gr.alloc (Gr.refl _) _) ?_) | (with_reducible refine Gr.keep (Gr.ext (Gr.refl _) _) ?_) | (with_reducible refine Gr.keep (Gr.drew (Gr.refl _)) ?_)))
  have sB : B.heap.size = w.heap.size + 2 := by rw [← hB]; first | (simp; done) | (simp; omega)
  have EB := Lib.hid hB
  clear hB
  go_loopw [8, 7] (fun s8 s7 wr => ∃ (p : Nat) (fps : List (List Nat)) (os : List GOccurrence), p ≤ r2.length + 1 ∧ Hid (fps.flatten = []) ∧ Gr B wr ∧ OwnR (α := GOccurrence) B 152 wr s7 fps os ∧ os.length ≤ 4 * p ∧ Hid (∀ o ∈ os, o.2.size ≤ 64) ∧ s8 = .int .i64 p) (fun s8 _ _ => r2.length + 1 - (intOf s8).toNat)
  case atStart => exact ⟨0, [], [], by omega, Lib.hid rfl, gd, OwnR.lit0 (α := GOccurrence) (w0 := B) (w := B) 152 (Nat.le_refl _) (by omega), by simp, Lib.hid (by simp), rfl⟩
  case round =>
    obtain ⟨p, fps, os, hp, HF, hg1, hown, hol, HNM, rfl⟩ := hrel
    rename World => W1
    have HG1 := Lib.hid hg1
    have HO := Lib.hid hown
    obtain ⟨ra, rc, hform⟩ := hown.form
    subst hform
    have y0 := bB0 _ hg1
    have y1 := bB1 _ hg1
    have y2 := bB2 _ hg1
    have y3 := bB3 _ hg1
    have y4 := bB4 _ hg1
    have y5 := bB5 _ hg1
    have y6 := bB6 _ hg1
    have y7 := bB7 _ hg1
    have zy0 := blk y0
    have zy2 := blk y2
    have hgw := gB.trans hg1
    have HGW := Lib.hid hgw
    have HOB := Lib.hid (show ∀ b ∈ (Value.slice ra os.length rc).ownBlock.toList, B.heap.size ≤ b ∧ b < W1.heap.size from fun b hb => hown.base b (by simpa using hb))
    clear hown
    by_cases hlt : p ≤ r2.length
    · have hlt' : (p : Int) ≤ (r2.length : Int) := by omega
      have p0 : (0 : Int) ≤ (p : Int) := by omega
      have iwp : IntKind.i64.wrap ((p : Int) + 1) = (p : Int) + 1 := IntWalk.i64_in _ (by omega)
      go_upto_region 5 with fail
      have kk0 := fun (w' : World) (h : Gr W1 w') => h.keep y0
      have kk1 := fun (w' : World) (h : Gr W1 w') => h.keep y1
      have kk2 := fun (w' : World) (h : Gr W1 w') => h.keep y2
      have kk3 := fun (w' : World) (h : Gr W1 w') => h.keep y3
      have kk4 := fun (w' : World) (h : Gr W1 w') => h.keep y4
      have kk5 := fun (w' : World) (h : Gr W1 w') => h.keep y5
      have kk6 := fun (w' : World) (h : Gr W1 w') => h.keep y6
      have kk7 := fun (w' : World) (h : Gr W1 w') => h.keep y7
      clear hgw
      go_cut [9] (fun sp wx => BoxSy W1 sp wx)
      case first =>
        go_region_held3 (fun w' => Gr W1 w') (first | assumption | exact Gr.drew (Gr.refl _) | (repeat (first | assumption | exact Gr.refl _ | apply Gr.ext | apply Gr.alloc | apply Gr.drew)))
          (first
            | (go_at_call 102; refine (symbolAt_some _ _ _ (Rd.gr HR.out (HGW.out.trans (by first | assumption | exact gd)))).mono ?_; rintro e w' ⟨sy, rfl, x1, rfl⟩)
            | (go_at_call 101; refine (specFindSymbol_new (g0, g1) _ _ (Rd.gr HG.out (HGW.out.trans (by first | assumption | exact gd))) HWT.out).mono ?_; rintro e w' ⟨es, fq, rfl, hrs, hfr, x2, rfl⟩; have hok := look_ok HS.out sy; obtain ⟨yy, hyy⟩ : ∃ y, y = (lookS (g0, g1).1 sy).getD zeroS := ⟨_, rfl⟩; rw [← hyy] at hrs; change SymOK ((lookS (g0, g1).1 sy).getD zeroS) at hok; rw [← hyy] at hok; clear hyy; obtain ⟨s0, s1⟩ := yy; obtain ⟨vs1, fs1, rfl, hfs, hs0, hs1⟩ := rdSymbol_inv s0 s1 hrs; obtain ⟨as1, ks1, rfl, -, -, -⟩ := hs1.open))
        all_goals
          go_wp2_with fail
          go_meet
          have hfs' : fq = fs1 := by simpa using hfs
          refine ⟨_, as1, ks1, fs1, s1, rfl, gd, by (try simp) <;> omega, ?_, ?_, hok.1, hok.2, fun c hc => ?_⟩
          · go_simp
          · first
              | (refine SlR.gr hs1 ?_; (repeat (first | exact Gr.refl _ | apply Gr.ext | apply Gr.alloc | apply Gr.drew)); done)
              | (exact SlR.moved hs1 (hfs' ▸ hfr) (Gr.refl _) (by simp))
          · have h1 := hfr.2 c (by rw [hfs']; exact hc)
            have h2 := hs1.lt c hc
            simp at h1 h2
            constructor <;> (try simp) <;> omega
      case rest =>
        obtain ⟨gb, as1, ks1, fs1, s1, rfl, g2, hgb, hc2, hs2, hl2, hn2, hf2⟩ := hcut
        rename World => W2
        clear kk0 kk1 kk2 kk3 kk4 kk5 kk6 kk7 y0 y1 y2 y3 y4 y5 y6 y7 zy0 zy2
        have HG2 := Lib.hid (HG1.out.trans g2)
        have hO2 := HO.out.gr g2
        have HN2 := Lib.hid hn2
        have HC2 := Lib.hid hc2
        have HS2 := Lib.hid hs2
        have HOW2 := Lib.hid (show ∀ b ∈ (Value.slice ra os.length rc).ownBlock.toList, b ≠ gb ∧ b ∉ fs1 from fun b hb => by
          have h1 := (HOB.out b hb).2
          exact ⟨by omega, fun hm => by have := (hf2 b hm).1; omega⟩)
        have hgl := blk hc2
        clear hf2 hn2 hc2 hs2 g2 hgb
        go_wp2_with fail
        go_loopw [11, 7] (fun s11 s7 wr => ∃ j : Nat, j ≤ s1.length ∧ OfIn B gb (.slice as1 s1.length ks1) fs1 s1 (4 * p) j s7 wr ∧ s11 = .int .i64 j) (fun s11 _ _ => s1.length - (intOf s11).toNat)
        case atStart => exact ⟨0, by omega, ⟨fps, os, HF.out, HG2.out, hO2, by omega, HNM.out, HC2.out, HS2.out, HOW2.out⟩, rfl⟩
        case round =>
          obtain ⟨j, hj, ⟨fps2, os2, hf2', hg3, hown, hol2, hnm2, hc3, hs3', how3⟩, rfl⟩ := hrel
          have HF2 := Lib.hid hf2'
          have HG3 := Lib.hid hg3
          have HNM2 := Lib.hid hnm2
          have HC3 := Lib.hid hc3
          have HS3 := Lib.hid hs3'
          have HOW3 := Lib.hid how3
          clear hf2' hg3 hnm2 hc3 hs3' how3
          rename World => W3
          have HO3 := Lib.hid hown
          obtain ⟨rb, rd, hform⟩ := hown.form
          subst hform
          have HOB3 := Lib.hid (show ∀ b ∈ (Value.slice rb os2.length rd).ownBlock.toList, b < W3.heap.size from fun b hb => (hown.base b (by simpa using hb)).2)
          have c3 := HC3.out
          have zc3 := blk c3
          clear hown hO2
          by_cases hlt : j < s1.length
          · have hs3 := HS3.out
            obtain ⟨a', c', he, o1, o2, os13⟩ := hs3.open
            injection he with e1 e2 e3
            subst e1 e3
            obtain ⟨bq, offq, rfl, hbbq⟩ := os13 j hlt
            obtain ⟨csq, feq, hcq, hrq, -⟩ := hs3.at hlt
            obtain ⟨yq, hyq⟩ : ∃ y, y = s1[j] := ⟨_, rfl⟩
            rw [← hyq] at hrq
            have HYq := Lib.hid hyq
            have HRq := Lib.hid hrq
            obtain ⟨q0, q1, q2, q3⟩ := yq
            obtain ⟨hcsq, -, hq0, hq1, hq2⟩ := rdAttribute_inv (cs := csq.toArray) q0 q1 q2 q3 (by simpa using hrq)
            obtain rfl : csq = [.string q0, .int .i64 q1, .int .i64 q2, .bool q3] := by have := congrArg Array.toList hcsq; simpa using this
            have qz0 : W3.cell? ⟨bq, offq + j * 4, none⟩ = some (.string q0) := by simpa [Rd.n] using hcq 0 _ rfl
            have qz1 : W3.cell? ⟨bq, offq + j * 4 + 1, none⟩ = some (.int .i64 q1) := hcq 1 _ rfl
            have qz2 : W3.cell? ⟨bq, offq + j * 4 + 2, none⟩ = some (.int .i64 q2) := hcq 2 _ rfl
            have qz3 : W3.cell? ⟨bq, offq + j * 4 + 3, none⟩ = some (.bool q3) := hcq 3 _ rfl
            have qzb := blk qz0
            clear hcsq hcq hrq hyq
            have hq64 : q0.size ≤ 64 := by
              have := HN2.out _ (List.getElem_mem hlt)
              rw [← HYq.out] at this
              exact this
            have HQ := Lib.hid (And.intro hq0 hq64)
            have j0 : (0 : Int) ≤ (j : Int) := by omega
            have j1 : (j : Int) < (s1.length : Int) := by omega
            have iwj : IntKind.i64.wrap ((j : Int) + 1) = (j : Int) + 1 := IntWalk.i64_in _ (by omega)
            clear hq0 hq64 hs3
            go_wp2_with (first | (at_builtin; refine wpList_append_RB (α := GOccurrence) (wg := B) (w0 := B) (HG3.out.trans gd) (Nat.le_refl _) (HG3.out.trans gd).size rfl _ _ 146 rfl 152 i0 (.agg #[.int .i64 0, .string ByteArray.empty]) 24 Try.underlying146 HZ.out.1 HZ.out.2.1 HZ.out.2.2.1 HZ.out.2.2.2 rfl _ fps2 os2 (by rfl) (HO3.out.gr gd) _ [[]] [(_, q0)] (by rfl) (SrcR.one (by simp) (rdOccurrence_mk _ q0 (wf_small (by omega) (by omega)) HQ.out.1)) (fun b _ => by simp) (by unfold maxLen; simp; omega) (by simp; omega) ?_; intro v3 w3 h1 h2 h3 h4; have K1 := Lib.hid h1; have K4 := Lib.hid h4; have K2 := Lib.hid (((Gr.alloc (Gr.alloc (Gr.refl W3) _) _).toWr _).trans h2); have K3 := Lib.hid (show ∀ b ∈ v3.ownBlock.toList, b ∈ (Value.slice rb os2.length rd).ownBlock.toList ∨ W3.heap.size ≤ b from fun b hb => h3.elim (fun e => .inl (by rw [e] at hb; exact hb)) (fun e => .inr (by rw [e] at hb; simp at hb; omega))); clear h1 h2 h3 h4))
            go_ways
            all_goals first
              | (refine ⟨⟨j + 1, by omega, ⟨fps2 ++ [[]], _, by rw [List.flatten_append, HF2.out]; rfl, K4.out, K1.out, by simp; omega, fun o ho => ?_, K2.out.keepC HC3.out (fun hm => (HOW3.out _ hm).1 rfl), HS3.out.wr K2.out (fun b hb hm => (HOW3.out b hm).2 hb), fun b hb => ?_⟩, by go_num⟩, by simp [intOf]; omega⟩
                 · rcases List.mem_append.1 ho with h | h
                   · exact HNM2.out o h
                   · rw [List.mem_singleton.1 h]; exact HQ.out.2
                 · rcases K3.out b hb with h | h
                   · exact HOW3.out b h
                   · have h9 := HS3.out.lt
                     exact ⟨by omega, fun hm => by have := h9 b hm; omega⟩)
              | (refine ⟨⟨j + 1, by omega, ⟨fps2, os2, HF2.out, HG3.out.trans gd, HO3.out.gr gd, by omega, HNM2.out, Gr.keep (Gr.alloc (Gr.refl _) _) HC3.out, HS3.out.gr gd, HOW3.out⟩, by go_num⟩, by simp [intOf]; omega⟩)
          · have hj2 : j = s1.length := by omega
            subst hj2
            have hoN := HO3.out
            go_wp2_with fail
            exact ⟨⟨p + 1, fps2, os2, by omega, HF2, HG3.out, hoN, by omega, HNM2, by go_num⟩, by simp [intOf]; omega⟩
    · have hpe : p = r2.length + 1 := by omega
      have hnl : ¬ ((p : Int) ≤ (r2.length : Int)) := by omega
      obtain ⟨fq, h1, h2⟩ := HO.out.fresh (by unfold reachLen; omega) (by rw [HF.out]; exact Fresh.nil _)
      have H1 := Lib.hid h1
      have H2 := Lib.hid (show ∀ b ∈ fq, w.heap.size ≤ b from fun b hb => by have := h2.2 b hb; omega)
      clear h1 h2
      go_wp2_with fail
      go_ret
      exact ⟨_, fq, os, rfl, H1.out, by omega, HNM.out, H2.out, HGW.out⟩
end Go.Proofs.Ytmfcagcanhmdbaa

namespace Go.Proofs.Ytmfcagcanhmdbaa
open Go.RowKit
set_option linter.unusedVariables false
set_option linter.unusedSimpArgs false
variable {d : Nat}

set_option maxRecDepth 100000 in
set_option maxHeartbeats 16000000 in
theorem reqOccs_any {fg fr : List Nat} {cg cr : Array Value} (g : GGrammar d) (r : GRule d) (w : World) (hg : Rd.rd fg w cg.toList g) (hr : Rd.rd fr w cr.toList r) (hl : wtGrammar g ≤ 1048576) (hs : ∀ s ∈ g.1, SymOK s) (hn : r.2.2.1.length ≤ 1000) :
    Calls Try.prog 100 #[.agg cg, .agg cr] w (OccsAt (4 * (r.2.2.1.length + 1)) w) := by
  obtain ⟨i0, hi, hz0, hz1, hz2⟩ := info_parts Try.infoOccC
  have HZ := Lib.hid (And.intro hi (And.intro hz0 (And.intro hz1 hz2)))
  clear hi hz0 hz1 hz2
  have HWT := Lib.hid hl
  have HS := Lib.hid hs
  clear hl hs
  have HG := Lib.hid hg
  obtain ⟨g0, g1⟩ := g
  obtain ⟨vg0, fg0, vg1, fg1, rfl, hfpg, hg0, hg1⟩ := rdGrammar_inv g0 g1 hg
  have FPg := Lib.hid hfpg
  clear hfpg
  obtain ⟨ag0, kg0, rfl, og01, og02, og03⟩ := hg0.open
  obtain ⟨ag1, kg1, rfl, og11, og12, og13⟩ := hg1.open
  clear hg
  have HR := Lib.hid hr
  obtain ⟨r0, r1, r2, r3, r4, r5⟩ := r
  obtain ⟨vr2, fr2, vr4, fr4, vr5, fr5, rfl, hfpr, hr0, hr1, hr2, hr4, hr5⟩ := rdRule_inv r0 r1 r2 r3 r4 r5 hr
  have FPr := Lib.hid hfpr
  clear hfpr
  obtain ⟨ar2, kr2, rfl, or21, or22, or23⟩ := hr2.open
  obtain ⟨ar4, kr4, rfl, or41, or42, or43⟩ := hr4.open
  obtain ⟨ar5, kr5, rfl, or51, or52, or53⟩ := hr5.open
  clear hr
  have hn' : r2.length ≤ 1000 := hn
  clear hn
  go_enter Try.func100, Try.ntmps100
  go_wp2_with fail
  generalize hB : ((w.alloc (.cells #[.slice ag0 g0.length kg0, .slice ag1 g1.length kg1] 114)).alloc (.cells #[.string r0, .string r1, .slice ar2 r2.length kr2, .bool r3, .slice ar4 r4.length kr4, .slice ar5 r5.length kr5] 138)) = B
  have gB : Gr w B := by rw [← hB]; exact gd
  have bB0 : ∀ w' : World, Gr B w' → w'.cell? ⟨w.heap.size, 0, none⟩ = some (.slice ag0 g0.length kg0) := fun w' hg => hg.keep (by rw [← hB]; repeat (first | ((with_reducible refine box_cell ?_ ?_) <;> first | omega | (simp; done) | (simp; omega) | rfl) | (with_reducible refine Gr.keep (Gr.alloc (Gr.refl _) _) ?_) | (with_reducible refine Gr.keep (Gr.ext (Gr.refl _) _) ?_) | (with_reducible refine Gr.keep (Gr.drew (Gr.refl _)) ?_)))
  have bB1 : ∀ w' : World, Gr B w' → w'.cell? ⟨w.heap.size, 1, none⟩ = some (.slice ag1 g1.length kg1) := fun w' hg => hg.keep (by rw [← hB]; repeat (first | ((with_reducible refine box_cell ?_ ?_) <;> first | omega | (simp; done) | (simp; omega) | rfl) | (with_reducible refine Gr.keep (Gr.alloc (Gr.refl _) _) ?_) | (with_reducible refine Gr.keep (Gr.ext (Gr.refl _) _) ?_) | (with_reducible refine Gr.keep (Gr.drew (Gr.refl _)) ?_)))
  have bB2 : ∀ w' : World, Gr B w' → w'.cell? ⟨w.heap.size + 1, 0, none⟩ = some (.string r0) := fun w' hg => hg.keep (by rw [← hB]; repeat (first | ((with_reducible refine box_cell ?_ ?_) <;> first | omega | (simp; done) | (simp; omega) | rfl) | (with_reducible refine Gr.keep (Gr.alloc (Gr.refl _) _) ?_) | (with_reducible refine Gr.keep (Gr.ext (Gr.refl _) _) ?_) | (with_reducible refine Gr.keep (Gr.drew (Gr.refl _)) ?_)))
  have bB3 : ∀ w' : World, Gr B w' → w'.cell? ⟨w.heap.size + 1, 1, none⟩ = some (.string r1) := fun w' hg => hg.keep (by rw [← hB]; repeat (first | ((with_reducible refine box_cell ?_ ?_) <;> first | omega | (simp; done) | (simp; omega) | rfl) | (with_reducible refine Gr.keep (Gr.alloc (Gr.refl _) _) ?_) | (with_reducible refine Gr.keep (Gr.ext (Gr.refl _) _) ?_) | (with_reducible refine Gr.keep (Gr.drew (Gr.refl _)) ?_)))
  have bB4 : ∀ w' : World, Gr B w' → w'.cell? ⟨w.heap.size + 1, 2, none⟩ = some (.slice ar2 r2.length kr2) := fun w' hg => hg.keep (by rw [← hB]; repeat (first | ((with_reducible refine box_cell ?_ ?_) <;> first | omega | (simp; done) | (simp; omega) | rfl) | (with_reducible refine Gr.keep (Gr.alloc (Gr.refl _) _) ?_) | (with_reducible refine Gr.keep (Gr.ext (Gr.refl _) _) ?_) | (with_reducible refine Gr.keep (Gr.drew (Gr.refl _)) ?_)))
  have bB5 : ∀ w' : World, Gr B w' → w'.cell? ⟨w.heap.size + 1, 3, none⟩ = some (.bool r3) := fun w' hg => hg.keep (by rw [← hB]; repeat (first | ((with_reducible refine box_cell ?_ ?_) <;> first | omega | (simp; done) | (simp; omega) | rfl) | (with_reducible refine Gr.keep (Gr.alloc (Gr.refl _) _) ?_) | (with_reducible refine Gr.keep (Gr.ext (Gr.refl _) _) ?_) | (with_reducible refine Gr.keep (Gr.drew (Gr.refl _)) ?_)))
  have bB6 : ∀ w' : World, Gr B w' → w'.cell? ⟨w.heap.size + 1, 4, none⟩ = some (.slice ar4 r4.length kr4) := fun w' hg => hg.keep (by rw [← hB]; repeat (first | ((with_reducible refine box_cell ?_ ?_) <;> first | omega | (simp; done) | (simp; omega) | rfl) | (with_reducible refine Gr.keep (Gr.alloc (Gr.refl _) _) ?_) | (with_reducible refine Gr.keep (Gr.ext (Gr.refl _) _) ?_) | (with_reducible refine Gr.keep (Gr.drew (Gr.refl _)) ?_)))
  have bB7 : ∀ w' : World, Gr B w' → w'.cell? ⟨w.heap.size + 1, 5, none⟩ = some (.slice ar5 r5.length kr5) := fun w' hg => hg.keep (by rw [← hB]; repeat (first | ((with_reducible refine box_cell ?_ ?_) <;> first | omega | (simp; done) | (simp; omega) | rfl) | (with_reducible refine Gr.keep (Gr.alloc (Gr.refl _) _) ?_) | (with_reducible refine Gr.keep (Gr.ext (Gr.refl _) _) ?_) | (with_reducible refine Gr.keep (Gr.drew (Gr.refl _)) ?_)))
  have sB : B.heap.size = w.heap.size + 2 := by rw [← hB]; first | (simp; done) | (simp; omega)
  have EB := Lib.hid hB
  clear hB
  go_loopw [6, 5] (fun s8 s7 wr => ∃ (p : Nat) (fps : List (List Nat)) (os : List GOccurrence), p ≤ r2.length + 1 ∧ Hid (fps.flatten = []) ∧ Gr B wr ∧ OwnR (α := GOccurrence) B 152 wr s7 fps os ∧ os.length ≤ 4 * p ∧ Hid (∀ o ∈ os, o.2.size ≤ 64) ∧ s8 = .int .i64 p) (fun s8 _ _ => r2.length + 1 - (intOf s8).toNat)
  case atStart => exact ⟨0, [], [], by omega, Lib.hid rfl, gd, OwnR.lit0 (α := GOccurrence) (w0 := B) (w := B) 152 (Nat.le_refl _) (by omega), by simp, Lib.hid (by simp), rfl⟩
  case round =>
    obtain ⟨p, fps, os, hp, HF, hg1, hown, hol, HNM, rfl⟩ := hrel
    rename World => W1
    have HG1 := Lib.hid hg1
    have HO := Lib.hid hown
    obtain ⟨ra, rc, hform⟩ := hown.form
    subst hform
    have y0 := bB0 _ hg1
    have y1 := bB1 _ hg1
    have y2 := bB2 _ hg1
    have y3 := bB3 _ hg1
    have y4 := bB4 _ hg1
    have y5 := bB5 _ hg1
    have y6 := bB6 _ hg1
    have y7 := bB7 _ hg1
    have zy0 := blk y0
    have zy2 := blk y2
    have hgw := gB.trans hg1
    have HGW := Lib.hid hgw
    have HOB := Lib.hid (show ∀ b ∈ (Value.slice ra os.length rc).ownBlock.toList, B.heap.size ≤ b ∧ b < W1.heap.size from fun b hb => hown.base b (by simpa using hb))
    clear hown
    by_cases hlt : p ≤ r2.length
    · have hlt' : (p : Int) ≤ (r2.length : Int) := by omega
      have p0 : (0 : Int) ≤ (p : Int) := by omega
      have iwp : IntKind.i64.wrap ((p : Int) + 1) = (p : Int) + 1 := IntWalk.i64_in _ (by omega)
      go_upto_region 5 with fail
      have kk0 := fun (w' : World) (h : Gr W1 w') => h.keep y0
      have kk1 := fun (w' : World) (h : Gr W1 w') => h.keep y1
      have kk2 := fun (w' : World) (h : Gr W1 w') => h.keep y2
      have kk3 := fun (w' : World) (h : Gr W1 w') => h.keep y3
      have kk4 := fun (w' : World) (h : Gr W1 w') => h.keep y4
      have kk5 := fun (w' : World) (h : Gr W1 w') => h.keep y5
      have kk6 := fun (w' : World) (h : Gr W1 w') => h.keep y6
      have kk7 := fun (w' : World) (h : Gr W1 w') => h.keep y7
      clear hgw
      go_cut [7] (fun sp wx => BoxSy W1 sp wx)
      case first =>
        go_region_held3 (fun w' => Gr W1 w') (first | assumption | exact Gr.drew (Gr.refl _) | (repeat (first | assumption | exact Gr.refl _ | apply Gr.ext | apply Gr.alloc | apply Gr.drew)))
          (first
            | (go_at_call 102; refine (symbolAt_some _ _ _ (Rd.gr HR.out (HGW.out.trans (by first | assumption | exact gd)))).mono ?_; rintro e w' ⟨sy, rfl, x1, rfl⟩)
            | (go_at_call 101; refine (specFindSymbol_new (g0, g1) _ _ (Rd.gr HG.out (HGW.out.trans (by first | assumption | exact gd))) HWT.out).mono ?_; rintro e w' ⟨es, fq, rfl, hrs, hfr, x2, rfl⟩; have hok := look_ok HS.out sy; obtain ⟨yy, hyy⟩ : ∃ y, y = (lookS (g0, g1).1 sy).getD zeroS := ⟨_, rfl⟩; rw [← hyy] at hrs; change SymOK ((lookS (g0, g1).1 sy).getD zeroS) at hok; rw [← hyy] at hok; clear hyy; obtain ⟨s0, s1⟩ := yy; obtain ⟨vs1, fs1, rfl, hfs, hs0, hs1⟩ := rdSymbol_inv s0 s1 hrs; obtain ⟨as1, ks1, rfl, -, -, -⟩ := hs1.open))
        all_goals
          go_wp2_with fail
          go_meet
          have hfs' : fq = fs1 := by simpa using hfs
          refine ⟨_, as1, ks1, fs1, s1, rfl, gd, by (try simp) <;> omega, ?_, ?_, hok.1, hok.2, fun c hc => ?_⟩
          · go_simp
          · first
              | (refine SlR.gr hs1 ?_; (repeat (first | exact Gr.refl _ | apply Gr.ext | apply Gr.alloc | apply Gr.drew)); done)
              | (exact SlR.moved hs1 (hfs' ▸ hfr) (Gr.refl _) (by simp))
          · have h1 := hfr.2 c (by rw [hfs']; exact hc)
            have h2 := hs1.lt c hc
            simp at h1 h2
            constructor <;> (try simp) <;> omega
      case rest =>
        obtain ⟨gb, as1, ks1, fs1, s1, rfl, g2, hgb, hc2, hs2, hl2, hn2, hf2⟩ := hcut
        rename World => W2
        clear kk0 kk1 kk2 kk3 kk4 kk5 kk6 kk7 y0 y1 y2 y3 y4 y5 y6 y7 zy0 zy2
        have HG2 := Lib.hid (HG1.out.trans g2)
        have hO2 := HO.out.gr g2
        have HN2 := Lib.hid hn2
        have HC2 := Lib.hid hc2
        have HS2 := Lib.hid hs2
        have HOW2 := Lib.hid (show ∀ b ∈ (Value.slice ra os.length rc).ownBlock.toList, b ≠ gb ∧ b ∉ fs1 from fun b hb => by
          have h1 := (HOB.out b hb).2
          exact ⟨by omega, fun hm => by have := (hf2 b hm).1; omega⟩)
        have hgl := blk hc2
        clear hf2 hn2 hc2 hs2 g2 hgb
        by_cases hz : p = 0
        · have hz0 : ((p : Int) == 0) = true := by simp [hz]
          clear hz
          go_wp2_with fail
          go_loopw [10, 5] (fun s11 s7 wr => ∃ j : Nat, j ≤ s1.length ∧ OfIn B gb (.slice as1 s1.length ks1) fs1 s1 (4 * p) j s7 wr ∧ s11 = .int .i64 j) (fun s11 _ _ => s1.length - (intOf s11).toNat)
          case atStart => exact ⟨0, by omega, ⟨fps, os, HF.out, HG2.out, hO2, by omega, HNM.out, HC2.out, HS2.out, HOW2.out⟩, rfl⟩
          case round =>
            obtain ⟨j, hj, ⟨fps2, os2, hf2', hg3, hown, hol2, hnm2, hc3, hs3', how3⟩, rfl⟩ := hrel
            have HF2 := Lib.hid hf2'
            have HG3 := Lib.hid hg3
            have HNM2 := Lib.hid hnm2
            have HC3 := Lib.hid hc3
            have HS3 := Lib.hid hs3'
            have HOW3 := Lib.hid how3
            clear hf2' hg3 hnm2 hc3 hs3' how3
            rename World => W3
            have HO3 := Lib.hid hown
            obtain ⟨rb, rd, hform⟩ := hown.form
            subst hform
            have HOB3 := Lib.hid (show ∀ b ∈ (Value.slice rb os2.length rd).ownBlock.toList, b < W3.heap.size from fun b hb => (hown.base b (by simpa using hb)).2)
            have c3 := HC3.out
            have zc3 := blk c3
            clear hown hO2
            by_cases hlt : j < s1.length
            · have hs3 := HS3.out
              obtain ⟨a', c', he, o1, o2, os13⟩ := hs3.open
              injection he with e1 e2 e3
              subst e1 e3
              obtain ⟨bq, offq, rfl, hbbq⟩ := os13 j hlt
              obtain ⟨csq, feq, hcq, hrq, -⟩ := hs3.at hlt
              obtain ⟨yq, hyq⟩ : ∃ y, y = s1[j] := ⟨_, rfl⟩
              rw [← hyq] at hrq
              have HYq := Lib.hid hyq
              have HRq := Lib.hid hrq
              obtain ⟨q0, q1, q2, q3⟩ := yq
              obtain ⟨hcsq, -, hq0, hq1, hq2⟩ := rdAttribute_inv (cs := csq.toArray) q0 q1 q2 q3 (by simpa using hrq)
              obtain rfl : csq = [.string q0, .int .i64 q1, .int .i64 q2, .bool q3] := by have := congrArg Array.toList hcsq; simpa using this
              have qz0 : W3.cell? ⟨bq, offq + j * 4, none⟩ = some (.string q0) := by simpa [Rd.n] using hcq 0 _ rfl
              have qz1 : W3.cell? ⟨bq, offq + j * 4 + 1, none⟩ = some (.int .i64 q1) := hcq 1 _ rfl
              have qz2 : W3.cell? ⟨bq, offq + j * 4 + 2, none⟩ = some (.int .i64 q2) := hcq 2 _ rfl
              have qz3 : W3.cell? ⟨bq, offq + j * 4 + 3, none⟩ = some (.bool q3) := hcq 3 _ rfl
              have qzb := blk qz0
              clear hcsq hcq hrq hyq
              have hq64 : q0.size ≤ 64 := by
                have := HN2.out _ (List.getElem_mem hlt)
                rw [← HYq.out] at this
                exact this
              have HQ := Lib.hid (And.intro hq0 hq64)
              have j0 : (0 : Int) ≤ (j : Int) := by omega
              have j1 : (j : Int) < (s1.length : Int) := by omega
              have iwj : IntKind.i64.wrap ((j : Int) + 1) = (j : Int) + 1 := IntWalk.i64_in _ (by omega)
              clear hq0 hq64 hs3
              go_wp2_with (first | (at_builtin; refine wpList_append_RB (α := GOccurrence) (wg := B) (w0 := B) (HG3.out.trans gd) (Nat.le_refl _) (HG3.out.trans gd).size rfl _ _ 146 rfl 152 i0 (.agg #[.int .i64 0, .string ByteArray.empty]) 24 Try.underlying146 HZ.out.1 HZ.out.2.1 HZ.out.2.2.1 HZ.out.2.2.2 rfl _ fps2 os2 (by rfl) (HO3.out.gr gd) _ [[]] [(_, q0)] (by rfl) (SrcR.one (by simp) (rdOccurrence_mk _ q0 (wf_small (by omega) (by omega)) HQ.out.1)) (fun b _ => by simp) (by unfold maxLen; simp; omega) (by simp; omega) ?_; intro v3 w3 h1 h2 h3 h4; have K1 := Lib.hid h1; have K4 := Lib.hid h4; have K2 := Lib.hid (((Gr.alloc (Gr.refl W3) _).toWr _).trans h2); have K3 := Lib.hid (show ∀ b ∈ v3.ownBlock.toList, b ∈ (Value.slice rb os2.length rd).ownBlock.toList ∨ W3.heap.size ≤ b from fun b hb => h3.elim (fun e => .inl (by rw [e] at hb; exact hb)) (fun e => .inr (by rw [e] at hb; simp at hb; omega))); clear h1 h2 h3 h4))
              go_ways
              all_goals first
                | (refine ⟨⟨j + 1, by omega, ⟨fps2 ++ [[]], _, by rw [List.flatten_append, HF2.out]; rfl, K4.out, K1.out, by simp; omega, fun o ho => ?_, K2.out.keepC HC3.out (fun hm => (HOW3.out _ hm).1 rfl), HS3.out.wr K2.out (fun b hb hm => (HOW3.out b hm).2 hb), fun b hb => ?_⟩, by go_num⟩, by simp [intOf]; omega⟩
                   · rcases List.mem_append.1 ho with h | h
                     · exact HNM2.out o h
                     · rw [List.mem_singleton.1 h]; exact HQ.out.2
                   · rcases K3.out b hb with h | h
                     · exact HOW3.out b h
                     · have h9 := HS3.out.lt
                       exact ⟨by omega, fun hm => by have := h9 b hm; omega⟩)
                | (refine ⟨⟨j + 1, by omega, ⟨fps2, os2, HF2.out, HG3.out.trans gd, HO3.out.gr gd, by omega, HNM2.out, HC3.out, HS3.out.gr gd, HOW3.out⟩, by go_num⟩, by simp [intOf]; omega⟩)
            · have hj2 : j = s1.length := by omega
              subst hj2
              have hoN := HO3.out
              go_wp2_with fail
              exact ⟨⟨p + 1, fps2, os2, by omega, HF2, HG3.out, hoN, by omega, HNM2, by go_num⟩, by simp [intOf]; omega⟩
        · have hz0 : ((p : Int) == 0) = false := by simpa using hz
          clear hz
          go_wp2_with fail
          go_loopw [10, 5] (fun s11 s7 wr => ∃ j : Nat, j ≤ s1.length ∧ OfIn B gb (.slice as1 s1.length ks1) fs1 s1 (4 * p) j s7 wr ∧ s11 = .int .i64 j) (fun s11 _ _ => s1.length - (intOf s11).toNat)
          case atStart => exact ⟨0, by omega, ⟨fps, os, HF.out, HG2.out, hO2, by omega, HNM.out, HC2.out, HS2.out, HOW2.out⟩, rfl⟩
          case round =>
            obtain ⟨j, hj, ⟨fps2, os2, hf2', hg3, hown, hol2, hnm2, hc3, hs3', how3⟩, rfl⟩ := hrel
            have HF2 := Lib.hid hf2'
            have HG3 := Lib.hid hg3
            have HNM2 := Lib.hid hnm2
            have HC3 := Lib.hid hc3
            have HS3 := Lib.hid hs3'
            have HOW3 := Lib.hid how3
            clear hf2' hg3 hnm2 hc3 hs3' how3
            rename World => W3
            have HO3 := Lib.hid hown
            obtain ⟨rb, rd, hform⟩ := hown.form
            subst hform
            have HOB3 := Lib.hid (show ∀ b ∈ (Value.slice rb os2.length rd).ownBlock.toList, b < W3.heap.size from fun b hb => (hown.base b (by simpa using hb)).2)
            have c3 := HC3.out
            have zc3 := blk c3
            clear hown hO2
            by_cases hlt : j < s1.length
            · have hs3 := HS3.out
              obtain ⟨a', c', he, o1, o2, os13⟩ := hs3.open
              injection he with e1 e2 e3
              subst e1 e3
              obtain ⟨bq, offq, rfl, hbbq⟩ := os13 j hlt
              obtain ⟨csq, feq, hcq, hrq, -⟩ := hs3.at hlt
              obtain ⟨yq, hyq⟩ : ∃ y, y = s1[j] := ⟨_, rfl⟩
              rw [← hyq] at hrq
              have HYq := Lib.hid hyq
              have HRq := Lib.hid hrq
              obtain ⟨q0, q1, q2, q3⟩ := yq
              obtain ⟨hcsq, -, hq0, hq1, hq2⟩ := rdAttribute_inv (cs := csq.toArray) q0 q1 q2 q3 (by simpa using hrq)
              obtain rfl : csq = [.string q0, .int .i64 q1, .int .i64 q2, .bool q3] := by have := congrArg Array.toList hcsq; simpa using this
              have qz0 : W3.cell? ⟨bq, offq + j * 4, none⟩ = some (.string q0) := by simpa [Rd.n] using hcq 0 _ rfl
              have qz1 : W3.cell? ⟨bq, offq + j * 4 + 1, none⟩ = some (.int .i64 q1) := hcq 1 _ rfl
              have qz2 : W3.cell? ⟨bq, offq + j * 4 + 2, none⟩ = some (.int .i64 q2) := hcq 2 _ rfl
              have qz3 : W3.cell? ⟨bq, offq + j * 4 + 3, none⟩ = some (.bool q3) := hcq 3 _ rfl
              have qzb := blk qz0
              clear hcsq hcq hrq hyq
              have hq64 : q0.size ≤ 64 := by
                have := HN2.out _ (List.getElem_mem hlt)
                rw [← HYq.out] at this
                exact this
              have HQ := Lib.hid (And.intro hq0 hq64)
              have j0 : (0 : Int) ≤ (j : Int) := by omega
              have j1 : (j : Int) < (s1.length : Int) := by omega
              have iwj : IntKind.i64.wrap ((j : Int) + 1) = (j : Int) + 1 := IntWalk.i64_in _ (by omega)
              clear hq0 hq64 hs3
              go_wp2_with (first | (at_builtin; refine wpList_append_RB (α := GOccurrence) (wg := B) (w0 := B) (HG3.out.trans gd) (Nat.le_refl _) (HG3.out.trans gd).size rfl _ _ 146 rfl 152 i0 (.agg #[.int .i64 0, .string ByteArray.empty]) 24 Try.underlying146 HZ.out.1 HZ.out.2.1 HZ.out.2.2.1 HZ.out.2.2.2 rfl _ fps2 os2 (by rfl) (HO3.out.gr gd) _ [[]] [(_, q0)] (by rfl) (SrcR.one (by simp) (rdOccurrence_mk _ q0 (wf_small (by omega) (by omega)) HQ.out.1)) (fun b _ => by simp) (by unfold maxLen; simp; omega) (by simp; omega) ?_; intro v3 w3 h1 h2 h3 h4; have K1 := Lib.hid h1; have K4 := Lib.hid h4; have K2 := Lib.hid (((Gr.alloc (Gr.refl W3) _).toWr _).trans h2); have K3 := Lib.hid (show ∀ b ∈ v3.ownBlock.toList, b ∈ (Value.slice rb os2.length rd).ownBlock.toList ∨ W3.heap.size ≤ b from fun b hb => h3.elim (fun e => .inl (by rw [e] at hb; exact hb)) (fun e => .inr (by rw [e] at hb; simp at hb; omega))); clear h1 h2 h3 h4))
              go_ways
              all_goals first
                | (refine ⟨⟨j + 1, by omega, ⟨fps2 ++ [[]], _, by rw [List.flatten_append, HF2.out]; rfl, K4.out, K1.out, by simp; omega, fun o ho => ?_, K2.out.keepC HC3.out (fun hm => (HOW3.out _ hm).1 rfl), HS3.out.wr K2.out (fun b hb hm => (HOW3.out b hm).2 hb), fun b hb => ?_⟩, by go_num⟩, by simp [intOf]; omega⟩
                   · rcases List.mem_append.1 ho with h | h
                     · exact HNM2.out o h
                     · rw [List.mem_singleton.1 h]; exact HQ.out.2
                   · rcases K3.out b hb with h | h
                     · exact HOW3.out b h
                     · have h9 := HS3.out.lt
                       exact ⟨by omega, fun hm => by have := h9 b hm; omega⟩)
                | (refine ⟨⟨j + 1, by omega, ⟨fps2, os2, HF2.out, HG3.out.trans gd, HO3.out.gr gd, by omega, HNM2.out, HC3.out, HS3.out.gr gd, HOW3.out⟩, by go_num⟩, by simp [intOf]; omega⟩)
            · have hj2 : j = s1.length := by omega
              subst hj2
              have hoN := HO3.out
              go_wp2_with fail
              exact ⟨⟨p + 1, fps2, os2, by omega, HF2, HG3.out, hoN, by omega, HNM2, by go_num⟩, by simp [intOf]; omega⟩
    · have hpe : p = r2.length + 1 := by omega
      have hnl : ¬ ((p : Int) ≤ (r2.length : Int)) := by omega
      obtain ⟨fq, h1, h2⟩ := HO.out.fresh (by unfold reachLen; omega) (by rw [HF.out]; exact Fresh.nil _)
      have H1 := Lib.hid h1
      have H2 := Lib.hid (show ∀ b ∈ fq, w.heap.size ≤ b from fun b hb => by have := h2.2 b hb; omega)
      clear h1 h2
      go_wp2_with fail
      go_ret
      exact ⟨_, fq, os, rfl, H1.out, (by show os.length ≤ 4 * (r2.length + 1); omega), HNM.out, H2.out, HGW.out⟩
end Go.Proofs.Ytmfcagcanhmdbaa
