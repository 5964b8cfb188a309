/- A rule's equations drawn. No condition. -/
import Derived.Test.YtmfcagcanhmdbaaH26
import Derived.Test.YtmfcagcanhmdbaaH27
import Derived.Test.YtmfcagcanhmdbaaH28
import Derived.Test.YtmfcagcanhmdbaaH30
namespace Go.Proofs.Ytmfcagcanhmdbaa
open Go.RowKit
set_option linter.unusedVariables false
set_option linter.unusedSimpArgs false
variable {d : Nat}

def SymOT (s : GSymbol) : Prop := s.2.length ≤ 4 ∧ ∀ a ∈ s.2, AttOK a
theorem SymOT.ok {s : GSymbol} (h : SymOT s) : SymOK s := ⟨h.1, fun a ha => (h.2 a ha).1⟩
theorem look_ot {xs : List GSymbol} (h : ∀ s ∈ xs, SymOT s) (n : ByteArray) : SymOT ((lookS xs n).getD zeroS) := by
 cases hl : lookS xs n with
 | none => exact ⟨by simp [zeroS], by simp [zeroS]⟩
 | some s => exact h s (List.mem_of_find?_eq_some hl)
theorem look_at {xs : List GAttribute} (h : ∀ a ∈ xs, AttOK a) (n : ByteArray) : AttOK ((lookA xs n).getD zeroA) := by
 cases hl : lookA xs n with
 | none => exact ⟨by decide, by decide, by decide⟩
 | some a => exact h a (List.mem_of_find?_eq_some hl)

theorem wtL_le {α : Type} (f : α → Nat) (xs : List α) {K : Nat} (h : ∀ x ∈ xs, f x ≤ K) : wtL f xs ≤ xs.length * (1 + K) := by
 unfold wtL
 induction xs with
 | nil => simp
 | cons x xs ih =>
  have h1 := h x (by simp)
  have h2 := ih (fun y hy => h y (by simp [hy]))
  simp only [List.length_cons, List.map_cons, List.sum_cons, Nat.succ_mul]
  omega
def BoxSym (W : World) (s : Value) (wx : World) : Prop :=
 ∃ (g : Nat) (n : ByteArray) (v : Value) (fq : List Nat) (y : List GAttribute), s = .pointer (some ⟨g, 0, none⟩) ∧ VRow wx g 133 [.string n, v] ∧ n.size ≤ maxLen ∧ SlR fq wx v y ∧ SymOT (n, y) ∧ W.heap.size ≤ g ∧ Gr W wx
def BoxAtt (W : World) (s : Value) (wx : World) : Prop :=
 ∃ (g : Nat) (n : ByteArray) (t m : Int) (q : Bool), s = .pointer (some ⟨g, 0, none⟩) ∧ VRow wx g 145 [.string n, .int .i64 t, .int .i64 m, .bool q] ∧ AttOK (n, t, m, q) ∧ W.heap.size ≤ g ∧ Gr W wx
def BoxExp (d b K : Nat) (W : World) (s : Value) (wx : World) : Prop :=
 ∃ (g : Nat) (u0 u1 u2 u3 : Int) (u4 u5 : ByteArray) (ua : Option Addr) (ul uc : Nat) (fe : List Nat) (xe : GExpr d), s = .pointer (some ⟨g, 0, none⟩) ∧ VRow wx g 157 [.int .i64 u0, .int .i64 u1, .int .i64 u2, .int .i64 u3, .string u4, .string u5, .slice ua ul uc] ∧ Rd.rd fe wx [.int .i64 u0, .int .i64 u1, .int .i64 u2, .int .i64 u3, .string u4, .string u5, .slice ua ul uc] xe ∧ wtExpr xe ≤ K ∧ W.heap.size ≤ g ∧ (∀ c ∈ fe, W.heap.size ≤ c ∧ c ≠ g) ∧ CurR wx b ∧ Wr [b] W wx
def RuleAt (d b : Nat) (x0 x1 : ByteArray) (v2 : Value) (x3 : Bool) (w : World) (e : Ending) (w' : World) : Prop :=
 ∃ (v4 : Value) (f4 : List Nat) (es : List (GEquation d)), e = .returned (.agg #[.string x0, .string x1, v2, .bool x3, v4, .slice none 0 0]) ∧ SlR f4 w' v4 es ∧ wtEquationS es ≤ 30000 ∧ (∀ c ∈ f4, w.heap.size ≤ c) ∧ CurR w' b ∧ Wr [b] w w'
def RuleIn (d b : Nat) (W0 : World) (gr : Nat) (x0 x1 : ByteArray) (v2 : Value) (x3 : Bool) (k : Nat) (wr : World) : Prop :=
 ∃ (v : Value) (fps : List (List Nat)) (es : List (GEquation d)), OwnR (α := GEquation d) W0 162 wr v fps es ∧ (∀ c ∈ fps.flatten, W0.heap.size ≤ c) ∧ es.length = k ∧ (∀ e ∈ es, wtEquation e ≤ 1700) ∧ VRow wr gr 138 [.string x0, .string x1, v2, .bool x3, v, .slice none 0 0] ∧ CurR wr b ∧ Wr [b, gr] W0 wr
def ExprV (d K : Nat) (W : World) (q : Bool) (v g : Value) (wx : World) : Prop :=
 ∃ (u0 u1 u2 u3 : Int) (u4 u5 : ByteArray) (ua : Option Addr) (ul uc : Nat) (fe : List Nat) (xe : GExpr d), v = .agg #[.int .i64 u0, .int .i64 u1, .int .i64 u2, .int .i64 u3, .string u4, .string u5, .slice ua ul uc] ∧ Rd.rd fe wx [.int .i64 u0, .int .i64 u1, .int .i64 u2, .int .i64 u3, .string u4, .string u5, .slice ua ul uc] xe ∧ wtExpr xe ≤ K ∧ (∀ c ∈ fe, W.heap.size ≤ c) ∧ (q = true → ∀ gn o, g = .pointer (some ⟨gn, o, none⟩) → gn ∉ fe)
def BoxV (W : World) (g : Value) (wx : World) : Prop :=
 ∃ (gn : Nat), g = .pointer (some ⟨gn, 0, none⟩) ∧ W.heap.size ≤ gn ∧ VRow wx gn 157 [.int .i64 0, .int .i64 0, .int .i64 0, .int .i64 0, .string ⟨#[]⟩, .string ⟨#[]⟩, .slice none 0 0]
def SE (d b K : Nat) (W : World) (p q z : Bool) (v g : Value) (wx : World) : Prop :=
 CurR wx b ∧ Wr [b] W wx ∧ (z = false → p = true → ExprV d K W q v g wx) ∧ (z = false → q = true → BoxV W g wx) ∧ (z = true → BoxExp d b K W g wx)
def SX (d b K : Nat) (W : World) (D : Nat → Bool) (a : Act) (wx : World) : Prop := SE d b K W (D 9) (D 10) (D 11) (a.tmps[56]?.getD undef) (a.tmps[15]?.getD undef) wx
def VX (b ga : Nat) (cg cr : Array Value) (ty : Int) (_ : Bool) (d : Nat) (v : Value) (_ : World) : Prop :=
 match d with
 | 47 | 52 => v = .pointer (some ⟨b, 0, none⟩)
 | 48 => v = .agg cg
 | 49 => v = .agg cr
 | 50 => v = .pointer (some ⟨ga, 1, none⟩)
 | 51 => v = .int .i64 ty
 | 53 => ∃ x, v = .int .i64 x ∧ 0 ≤ x ∧ x < 3
 | 54 => ∃ x, v = .int .i64 (1 + x) ∧ 0 ≤ x ∧ x < 3
 | 55 => v = .bool false
 | _ => True
theorem SE.wr {d b K : Nat} {W wx wy : World} {p q z : Bool} {v g : Value} (h : SE d b K W p q z v g wx) (hb : b < W.heap.size) (hc : CurR wy b) (hw : Wr [b] wx wy) (hz : z = false) : SE d b K W p q z v g wy := by
 obtain ⟨h1, h2, h3, h4, h5⟩ := h
 refine ⟨hc, h2.trans hw, fun hz hp => ?_, fun hz hq => ?_, fun e => ?_⟩
 ·obtain ⟨u0, u1, u2, u3, u4, u5, ua, ul, uc, fe, xe, e1, e2, e3, e4, e5⟩ := h3 hz hp
  exact ⟨u0, u1, u2, u3, u4, u5, ua, ul, uc, fe, xe, e1, Rd.wr e2 hw (fun c hc hm => by have := e4 c hc; have := List.mem_singleton.1 hm; omega), e3, e4, e5⟩
 ·obtain ⟨gn, e1, e2, e3⟩ := h4 hz hq
  exact ⟨gn, e1, e2, e3.wr hw (by simp; omega)⟩
 ·rw [hz] at e; cases e
theorem Try.infoEqnC : (Try.prog.info? 162).map (fun i => (i.zero, i.size, i.bytes)) = some (some (.agg #[.int .i64 0, .string ByteArray.empty, .int .i64 0, .int .i64 0, .int .i64 0, .int .i64 0, .string ByteArray.empty, .string ByteArray.empty, .slice none 0 0]), 9, 112) := by kernel_rfl

set_option maxRecDepth 100000 in
set_option maxHeartbeats 16000000 in
theorem l10Rule_any (b : Nat) {fg f2 : List Nat} {cg : Array Value} (g : GGrammar d) (x0 x1 : ByteArray) (x2 : List ByteArray) (x3 : Bool) (a2 : Option Addr) (c2 : Nat) (w : World) (h : CurR w b) (hg : Rd.rd fg w cg.toList g) (h2 : SlR f2 w (.slice a2 x2.length c2) x2) (hbg : b ∉ fg) (hb2 : b ∉ f2) (h0 : x0.size ≤ 1000) (h1 : x1.size ≤ 1000) (hl : wtGrammar g ≤ 1048576) (hs : ∀ s ∈ g.1, SymOT s) (hn : x2.length ≤ 3) (hd : 2 ≤ d) (hdd : d ≤ 1000) :
  Calls Try.prog 95 #[.pointer (some ⟨b, 0, none⟩), .agg cg, .agg #[.string x0, .string x1, .slice a2 x2.length c2, .bool x3, .slice none 0 0, .slice none 0 0], .bool false] w (RuleAt d b x0 x1 (.slice a2 x2.length c2) x3 w) := by
 obtain ⟨i0, hi, hz0, hz1, hz2⟩ := info_parts Try.infoEqnC
 have HZ := Lib.hid (And.intro hi (And.intro hz0 (And.intro hz1 hz2)))
 clear hi hz0 hz1 hz2
 obtain ⟨E, hE0, hEg⟩ : ∃ E : World, E.heap.size = 0 ∧ Gr E w := ⟨w.first 0, size_first (by omega), gr_first (by omega)⟩
 have HC := Lib.hid h
 have H2 := Lib.hid h2
 have HWT := Lib.hid hl
 have HS := Lib.hid hs
 have hbl := h.lt
 clear h h2 hl hs
 have HG := Lib.hid hg
 obtain ⟨g0, g1⟩ := g
 obtain ⟨vg0, fg0, vg1, fg1, rfl, hfpg, hg0, hg1⟩ := rdGrammar_inv g0 g1 hg
 have FPg := Lib.hid hfpg
 clear hfpg
 obtain ⟨ag0, kg0, rfl, og01, og02, og03⟩ := hg0.open
 obtain ⟨ag1, kg1, rfl, og11, og12, og13⟩ := hg1.open
 clear hg
 have HGL := Lib.hid (Rd.lt HG.out)
 go_enter Try.func95, Try.ntmps95
 go_upto_region 1 with fail
 generalize hV0 : ((w.alloc (.cells #[.slice ag0 g0.length kg0, .slice ag1 g1.length kg1] 114)).alloc (.cells #[.string x0, .string x1, .slice a2 x2.length c2, .bool x3, .slice none 0 0, .slice none 0 0] 138)).alloc (.cells #[.string ⟨#[]⟩, .string ⟨#[]⟩, .slice none 0 0, .bool false, .slice none 0 0, .slice none 0 0] 138) = V0
 have hg0 : Gr w V0 := by rw [← hV0]; exact gd
 have vs0 := (show VRow V0 (w.heap.size + 1 + 1) 138 [.string ⟨#[]⟩, .string ⟨#[]⟩, .slice none 0 0, .bool false, .slice none 0 0, .slice none 0 0] by rw [← hV0]; exact VRow.new (by simp))
 have vg0 := (show VRow V0 w.heap.size 114 [.slice ag0 g0.length kg0, .slice ag1 g1.length kg1] by rw [← hV0]; exact (VRow.new (A := w) rfl).gr gd)
 have vr0 := (show VRow V0 (w.heap.size + 1) 138 [.string x0, .string x1, .slice a2 x2.length c2, .bool x3, .slice none 0 0, .slice none 0 0] by rw [← hV0]; exact (VRow.new (A := w.alloc (.cells #[.slice ag0 g0.length kg0, .slice ag1 g1.length kg1] 114)) (by simp)).gr gd)
 have s0 : V0.heap.size = w.heap.size + 3 := by rw [← hV0]; simp
 clear hV0
 have q0 := vg0.cell (k := 0) (by simp)
 have q1 := vg0.cell (k := 1) (by simp)
 have p0 := vr0.cell (k := 0) (by simp)
 have p1 := vr0.cell (k := 1) (by simp)
 have p2 := vr0.cell (k := 2) (by simp)
 have p3 := vr0.cell (k := 3) (by simp)
 have p4 := vr0.cell (k := 4) (by simp)
 have p5 := vr0.cell (k := 5) (by simp)
 have VS0 := Lib.hid vs0
 have VG0 := Lib.hid vg0
 have VR0 := Lib.hid vr0
 have HG0 := Lib.hid hg0
 clear vs0 vg0 vr0 hg0
 have hr0 := rdRule_mk (d := d) x0 x1 x2 x3 [] [] (by unfold maxLen; omega) (by unfold maxLen; omega) (SlR.gr H2.out HG0.out) (SlR.nil V0) (SlR.nil V0)
 have HR0 := Lib.hid hr0
 clear hr0
 go_wp2_with fail
 refine (reqOccs_any (g0, g1) (x0, x1, x2, x3, [], []) _ (Rd.gr HG.out HG0.out) HR0.out HWT.out (fun s hs => (HS.out s hs).ok) (by show x2.length ≤ 1000; omega)).mono ?_
 rintro e w' ⟨v, fo, os, rfl, hso, hlo, hno, hfo, x6, rfl⟩
 obtain ⟨ao, ko, rfl, -, -, -⟩ := hso.open
 generalize hW0 : V0.ext x6 = W0 at *
 have g00 : Gr V0 W0 := by rw [← hW0]; exact gd
 have hlo2 : os.length ≤ 16 := by
  have h : os.length ≤ 4 * (x2.length + 1) := hlo
  omega
 have hgw := HG0.out.trans g00
 have hsz := g00.size
 have HSO := Lib.hid hso
 have HNO := Lib.hid hno
 have VS := Lib.hid (VS0.out.gr g00)
 have VG := Lib.hid (VG0.out.gr g00)
 have VR := Lib.hid (VR0.out.gr g00)
 have HBO := Lib.hid (show ∀ c ∈ fo, c ≠ b ∧ c ≠ w.heap.size + 1 from fun c hc => by have := hfo c hc; omega)
 have HGW := Lib.hid hgw
 have HCW := Lib.hid (HC.out.gr hgw)
 clear hso hno hfo hlo hW0 g00 hgw q0 q1 p0 p1 p2 p3 p4 p5 VS0 VG0 VR0
 go_wp2_with fail
 go_loopw [10] (fun s10 wr => ∃ k : Nat, k ≤ os.length ∧ RuleIn d b W0 (w.heap.size + 1) x0 x1 (.slice a2 x2.length c2) x3 k wr ∧ s10 = .int .i64 k) (fun s10 _ => os.length - (intOf s10).toNat)
 case atStart => exact ⟨0, by omega, ⟨_, [], [], OwnR.nil _ _ _, by simp, rfl, by simp, VR.out, HCW.out, Wr.refl _ _⟩, rfl⟩
 case round =>
  obtain ⟨k, hk, ⟨v, fps, es, hown, hff, hel, hew, hvr, hc, hw⟩, rfl⟩ := hrel
  rename World => W1
  obtain ⟨va, vc, hform⟩ := hown.form
  rw [hel] at hform
  subst hform
  have hbw : b ≠ w.heap.size + 1 := by omega
  have hgd : ∀ c ∈ fg, c ∉ [b, w.heap.size + 1] := fun c hc hm => by
   have h1 := HGL.out c hc
   rcases List.mem_cons.1 hm with h | h
   ·exact hbg (h ▸ hc)
   ·have := List.mem_singleton.1 h; omega
  have hrg1 := Rd.wr (Rd.gr HG.out HGW.out) hw hgd
  have h21 := (SlR.gr H2.out HGW.out).wr hw (fun c hc hm => by
   have h1 := H2.out.lt c hc
   rcases List.mem_cons.1 hm with h | h
   ·exact hb2 (h ▸ hc)
   ·have := List.mem_singleton.1 h; omega)
  obtain ⟨f4, h4, hf4⟩ := hown.slR (by unfold reachLen; omega)
  have hb4 : b ∉ f4 := fun hm => by
   rcases hf4 with ⟨-, rfl⟩ | ⟨z, hz, rfl⟩
   ·cases hm
   ·have h3 := (hown.base z hz).1
    rcases List.mem_cons.1 hm with h | h
    ·omega
    ·have := hff b h; omega
  have hrr1 : Rd.rd _ W1 (#[.string x0, .string x1, .slice a2 x2.length c2, .bool x3, .slice va k vc, .slice none 0 0] : Array Value).toList (x0, x1, x2, x3, es, []) := rdRule_mk (d := d) x0 x1 x2 x3 es [] (by unfold maxLen; omega) (by unfold maxLen; omega) h21 h4 (SlR.nil W1)
  obtain ⟨fr, hfr⟩ : ∃ fr, fr = [] ++ ([] ++ (f2 ++ ([] ++ (f4 ++ [])))) := ⟨_, rfl⟩
  have hbr : b ∉ fr := by rw [hfr]; simp [hb2, hb4]
  rw [← hfr] at hrr1
  have HRG1 := Lib.hid hrg1
  have HRR1 := Lib.hid hrr1
  have HO := Lib.hid hown
  have HFF := Lib.hid hff
  have HEW := Lib.hid hew
  have HVR := Lib.hid hvr
  have HVG := Lib.hid (VG.out.wr hw (by simp; omega))
  have HVS := Lib.hid (VS.out.wr hw (by simp; omega))
  have HC1 := Lib.hid hc
  have HSO1 := Lib.hid (HSO.out.wr hw (fun c hc hm => by
   have h1 := HBO.out c hc
   rcases List.mem_cons.1 hm with h | h
   ·exact h1.1 h
   ·exact h1.2 (List.mem_singleton.1 h)))
  have HW := Lib.hid hw
  have hs1 := hw.size
  have hgs1 := HVS.out.lt
  clear hown hff hew hvr hc hw hrg1 hrr1 h21 h4 hf4 hfr hgd
  by_cases hlt : k < os.length
  ·have k0 : (0 : Int) ≤ (k : Int) := by omega
   have k1 : (k : Int) < (os.length : Int) := by omega
   have iwk : IntKind.i64.wrap ((k : Int) + 1) = (k : Int) + 1 := IntWalk.i64_in _ (by omega)
   have hs3 := HSO1.out
   obtain ⟨a', c', he, o1, o2, os13⟩ := hs3.open
   injection he with e1 e2 e3
   subst e1 e3
   obtain ⟨bq, offq, rfl, hbbq⟩ := os13 k hlt
   obtain ⟨csq, feq, hcq, hrq, -⟩ := hs3.at hlt
   obtain ⟨yq, hyq⟩ : ∃ y, y = os[k] := ⟨_, rfl⟩
   rw [← hyq] at hrq
   have HYq := Lib.hid hyq
   have HRq := Lib.hid hrq
   obtain ⟨q0, q1⟩ := yq
   obtain ⟨hcsq, -, hq0, hq1⟩ := rdOccurrence_inv (cs := csq.toArray) q0 q1 (by simpa using hrq)
   obtain rfl : csq = [.int .i64 q0, .string q1] := by have := congrArg Array.toList hcsq; simpa using this
   have qz0 : W1.cell? ⟨bq, offq + k * 2, none⟩ = some (.int .i64 q0) := by simpa [Rd.n] using hcq 0 _ rfl
   have qz1 : W1.cell? ⟨bq, offq + k * 2 + 1, none⟩ = some (.string q1) := hcq 1 _ rfl
   have qzb := blk qz0
   clear hcsq hcq hrq hyq
   have hq64 : q1.size ≤ 64 := by
    have := HNO.out _ (List.getElem_mem hlt)
    rw [← HYq.out] at this
    exact this
   have HQ := Lib.hid (And.intro hq0 hq64)
   have hQZ := Lib.hid (And.intro qz0 qz1)
   clear hq0 hq64 hs3
   have y0 := HVG.out.cell (k := 0) (by simp)
   have y1 := HVG.out.cell (k := 1) (by simp)
   have y2 := HVR.out.cell (k := 0) (by simp)
   have y3 := HVR.out.cell (k := 1) (by simp)
   have y4 := HVR.out.cell (k := 2) (by simp)
   have y5 := HVR.out.cell (k := 3) (by simp)
   have y6 := HVR.out.cell (k := 4) (by simp)
   have y7 := HVR.out.cell (k := 5) (by simp)
   have zy0 := blk y0
   have zy2 := blk y2
   go_upto_region 5 with fail
   have kk0 := fun (w' : World) (h : Gr W1 w') => h.keep y0
   have kk1 := fun (w' : World) (h : Gr W1 w') => h.keep y1
   have kk2 := fun (w' : World) (h : Gr W1 w') => h.keep y2
   have kk3 := fun (w' : World) (h : Gr W1 w') => h.keep y3
   have kk4 := fun (w' : World) (h : Gr W1 w') => h.keep y4
   have kk5 := fun (w' : World) (h : Gr W1 w') => h.keep y5
   have kk6 := fun (w' : World) (h : Gr W1 w') => h.keep y6
   have kk7 := fun (w' : World) (h : Gr W1 w') => h.keep y7
   have kk8 := fun (w' : World) (h : Gr W1 w') => h.keep qz0
   have kk9 := fun (w' : World) (h : Gr W1 w') => h.keep qz1
   go_cut [11] (fun sp wx => BoxSym W1 sp wx)
   case first =>
    go_region_held3 (fun w' => Gr W1 w') (first | assumption | exact Gr.drew (Gr.refl _) | (repeat (first | assumption | exact Gr.refl _ | apply Gr.ext | apply Gr.alloc | apply Gr.drew)))
     (first
      | (go_at_call 102; refine (symbolAt_some _ _ _ (Rd.gr HRR1.out (by first | assumption | exact gd))).mono ?_; rintro e w' ⟨sy, rfl, x1, rfl⟩)
      | (go_at_call 101; refine (specFindSymbol_new (g0, g1) _ _ (Rd.gr HRG1.out (by first | assumption | exact gd)) HWT.out).mono ?_; rintro e w' ⟨es, fq, rfl, hrs, hfr, x2, rfl⟩; have hok := look_ot HS.out sy; obtain ⟨yy, hyy⟩ : ∃ y, y = (lookS (g0, g1).1 sy).getD zeroS := ⟨_, rfl⟩; rw [← hyy] at hrs; change SymOT ((lookS (g0, g1).1 sy).getD zeroS) at hok; rw [← hyy] at hok; clear hyy; obtain ⟨s0, s1⟩ := yy; obtain ⟨vs1, fs1, rfl, hfs, hs0, hs1⟩ := rdSymbol_inv s0 s1 hrs; obtain ⟨as1, ks1, rfl, -, -, -⟩ := hs1.open))
    all_goals
     go_wp2_with fail
     go_meet
     have hfs' : fq = fs1 := by simpa using hfs
     refine ⟨_, s0, .slice as1 s1.length ks1, fs1, s1, rfl, ?_, hs0, ?_, hok, by (try simp) <;> omega, gd⟩
     ·repeat (first | ((with_reducible refine VRow.new ?_) <;> first | omega | (simp; done) | (simp; omega) | rfl) | (with_reducible refine VRow.gr ?_ (Gr.alloc (Gr.refl _) _)) | (with_reducible refine VRow.gr ?_ (Gr.ext (Gr.refl _) _)) | (with_reducible refine VRow.gr ?_ (Gr.drew (Gr.refl _))))
     ·first
       | (refine SlR.gr hs1 ?_; (repeat (first | exact Gr.refl _ | apply Gr.ext | apply Gr.alloc | apply Gr.drew)); done)
       | (exact SlR.moved hs1 (hfs' ▸ hfr) (Gr.refl _) (by simp))
   case rest =>
    obtain ⟨gy, sn, sv, fy, sy, rfl, hvy, hsn, hsy, hoy, hgy, g2⟩ := hcut
    rename World => W2
    clear kk0 kk1 kk2 kk3 kk4 kk5 kk6 kk7 kk8 kk9 y0 y1 y2 y3 y4 y5 y6 y7 zy0 zy2
    have w12 := g2.size
    have HVY := Lib.hid hvy
    have HRY := Lib.hid (rdSymbol_mk sn sy hsn hsy)
    have HOY := Lib.hid hoy
    have hyl := hvy.lt
    clear hvy hsn hsy hoy
    replace qz0 := g2.keep qz0
    replace qz1 := g2.keep qz1
    have qzb := blk qz0
    have G2 := Lib.hid g2
    have y0 := HVY.out.cell (k := 0) (by simp)
    have y1 := HVY.out.cell (k := 1) (by simp)
    have zy0 := blk y0
    have kk0 := fun (w' : World) (h : Gr W2 w') => h.keep y0
    have kk1 := fun (w' : World) (h : Gr W2 w') => h.keep y1
    have kk2 := fun (w' : World) (h : Gr W2 w') => h.keep qz1
    clear g2
    go_upto_region 6 with fail
    go_cut [13] (fun sp wx => BoxAtt W2 sp wx)
    case first =>
     go_region_held3 (fun w' => Gr W2 w') (first | assumption | exact Gr.drew (Gr.refl _) | (repeat (first | assumption | exact Gr.refl _ | apply Gr.ext | apply Gr.alloc | apply Gr.drew)))
      (first
       | (go_at_call 103; refine (specFindAttr_any (sn, sy) _ _ (Rd.gr HRY.out (by first | assumption | exact gd))).mono ?_; rintro e w' ⟨es, fq, rfl, hrs, -, x1, rfl⟩; have hok := look_at HOY.out.2 q1; obtain ⟨yy, hyy⟩ : ∃ y, y = (lookA (sn, sy).2 q1).getD zeroA := ⟨_, rfl⟩; rw [← hyy] at hrs; change AttOK ((lookA (sn, sy).2 q1).getD zeroA) at hok; rw [← hyy] at hok; clear hyy; obtain ⟨t0, t1, t2, t3⟩ := yy; obtain ⟨rfl, -, -, -, -⟩ := rdAttribute_inv t0 t1 t2 t3 hrs))
     all_goals
      go_wp2_with fail
      go_meet
      refine ⟨_, t0, t1, t2, t3, rfl, ?_, hok, by (try simp) <;> omega, gd⟩
      repeat (first | ((with_reducible refine VRow.new ?_) <;> first | omega | (simp; done) | (simp; omega) | rfl) | (with_reducible refine VRow.gr ?_ (Gr.alloc (Gr.refl _) _)) | (with_reducible refine VRow.gr ?_ (Gr.ext (Gr.refl _) _)) | (with_reducible refine VRow.gr ?_ (Gr.drew (Gr.refl _))))
    case rest =>
     obtain ⟨ga, n, ty, m, qb, rfl, hva, hoa, hga, g3⟩ := hcut
     rename World => W3
     clear kk0 kk1 kk2 y0 y1 zy0 qz0 qz1 qzb
     have g13 := G2.out.trans g3
     have w13 := g13.size
     have HVA := Lib.hid hva
     have hal := hva.lt
     have hty : 0 ≤ ty ∧ ty ≤ 4 := hoa.2
     have HTY := Lib.hid hty
     have HRG3 := Lib.hid (Rd.gr HRG1.out g13)
     have HRR3 := Lib.hid (Rd.gr HRR1.out g13)
     have HVG3 := Lib.hid (HVG.out.gr g13)
     have HVR3 := Lib.hid (HVR.out.gr g13)
     have HC3 := Lib.hid (HC1.out.gr g13)
     have hw03 := HW.out.gr g13
     have HW03 := Lib.hid hw03
     have htw : (Lit.int .i64 ty).wf = true := wf_small hty.1 (by omega)
     have HTW := Lib.hid htw
     clear hva hoa g3 G2 htw hw03 hty
     have y0 := HVG3.out.cell (k := 0) (by simp)
     have y1 := HVG3.out.cell (k := 1) (by simp)
     have y2 := HVR3.out.cell (k := 0) (by simp)
     have y3 := HVR3.out.cell (k := 1) (by simp)
     have y4 := HVR3.out.cell (k := 2) (by simp)
     have y5 := HVR3.out.cell (k := 3) (by simp)
     have y6 := HVR3.out.cell (k := 4) (by simp)
     have y7 := HVR3.out.cell (k := 5) (by simp)
     have y8 := HVA.out.cell (k := 1) (by simp)
     have zy0 := blk y0
     have zy2 := blk y2
     have zy8 := blk y8
     have G2T := Lib.hid g13
     clear g13
     go_upto_region 7 with fail
     have hbl3 : b < W3.heap.size := HC3.out.lt
     refine wp_region_J (SX d b 1600 W3) (VX b ga #[.slice ag0 g0.length kg0, .slice ag1 g1.length kg1] #[.string x0, .string x1, .slice a2 x2.length c2, .bool x3, .slice va k vc, .slice none 0 0] ty) 11 [47, 48, 49, 50, 51, 52, 53, 54, 55, 56, 15] (by kernel_rfl) (by kernel_rfl) (by kernel_rfl) ⟨HC3.out.gr (Gr.drew (Gr.refl _)), (Gr.drew (Gr.refl W3)).toWr [b], (fun _ h => by cases h), (fun _ h => by cases h), (fun h => by cases h)⟩ ?_ ?_
     ·refine ⟨?_, ?_, ?_, ?_, ?_, ?_, ?_, ?_, ?_, ?_, ?_, ?_, trivial⟩
      all_goals intro D f a w' hDz hsz' hDi hdone hf hS hfr hV K hK
      all_goals have HSZ := Lib.hid hsz'
      all_goals clear hsz'
      ·have e0 : a.tmps[0]?.getD undef = .pointer (some ⟨b, 0, none⟩) := hfr 0 (by kernel_rfl)
       go_simp
       refine hK.out _ _ (by simpa [SX, Act.put, Array.getElem?_setIfInBounds] using hS) (fun d h => h) (fun d hd => ?_)
       obtain rfl := Option.some.inj hd
       exact rfl
      ·have e5 : a.tmps[5]?.getD undef = .pointer (some ⟨w.heap.size, 0, none⟩) := hfr 5 (by kernel_rfl)
       have y0 := hS.2.1.keepC y0 (by simp; omega)
       have y1 := hS.2.1.keepC y1 (by simp; omega)
       have zy0 := blk y0
       go_simp
       refine hK.out _ _ (by simpa [SX, Act.put, Array.getElem?_setIfInBounds] using hS) (fun d h => h) (fun d hd => ?_)
       obtain rfl := Option.some.inj hd
       exact rfl
      ·have e6 : a.tmps[6]?.getD undef = .pointer (some ⟨w.heap.size + 1, 0, none⟩) := hfr 6 (by kernel_rfl)
       have y2 := hS.2.1.keepC y2 (by simp; omega)
       have y3 := hS.2.1.keepC y3 (by simp; omega)
       have y4 := hS.2.1.keepC y4 (by simp; omega)
       have y5 := hS.2.1.keepC y5 (by simp; omega)
       have y6 := hS.2.1.keepC y6 (by simp; omega)
       have y7 := hS.2.1.keepC y7 (by simp; omega)
       have zy2 := blk y2
       go_simp
       refine hK.out _ _ (by simpa [SX, Act.put, Array.getElem?_setIfInBounds] using hS) (fun d h => h) (fun d hd => ?_)
       obtain rfl := Option.some.inj hd
       exact rfl
      ·have e13 : a.tmps[13]?.getD undef = .pointer (some ⟨ga, 0, none⟩) := hfr 13 (by kernel_rfl)
       go_simp
       refine hK.out _ _ (by simpa [SX, Act.put, Array.getElem?_setIfInBounds] using hS) (fun d h => h) (fun d hd => ?_)
       obtain rfl := Option.some.inj hd
       exact rfl
      ·have e50 : a.tmps[50]?.getD undef = .pointer (some ⟨ga, 1, none⟩) := hV 50 (by kernel_rfl)
       have y8 := hS.2.1.keepC y8 (by simp; omega)
       have zy8 := blk y8
       go_simp
       refine hK.out _ _ (by simpa [SX, Act.put, Array.getElem?_setIfInBounds] using hS) (fun d h => h) (fun d hd => ?_)
       obtain rfl := Option.some.inj hd
       exact rfl
      ·have e0 : a.tmps[0]?.getD undef = .pointer (some ⟨b, 0, none⟩) := hfr 0 (by kernel_rfl)
       go_simp
       refine hK.out _ _ (by simpa [SX, Act.put, Array.getElem?_setIfInBounds] using hS) (fun d h => h) (fun d hd => ?_)
       obtain rfl := Option.some.inj hd
       exact rfl
      ·have e52 : a.tmps[52]?.getD undef = .pointer (some ⟨b, 0, none⟩) := hV 52 (by kernel_rfl)
       obtain rfl := hf (.inr (by kernel_rfl))
       have hCL := Lib.hid (l1Below_any b 3 w' hS.1 (by omega) (by omega))
       go_simp
       refine hCL.out.mono ?_
       rintro e u ⟨x5, rfl, hx0, hx1, hcx, hwx⟩
       refine hK.out _ u ?_ (fun d h => h) (fun d hd => ?_)
       ·have h9 := SE.wr hS hbl3 hcx hwx hDz
        simpa [SX, Act.put, Array.getElem?_setIfInBounds] using h9
       ·obtain rfl := Option.some.inj hd
        exact ⟨x5, rfl, hx0, hx1⟩
      ·obtain ⟨x5, e53, hx0, hx1⟩ := hV 53 (by kernel_rfl)
       have iwx : IntKind.i64.wrap (1 + x5) = 1 + x5 := IntWalk.i64_in _ (by omega)
       go_simp
       refine hK.out _ _ (by simpa [SX, Act.put, Array.getElem?_setIfInBounds] using hS) (fun d h => h) (fun d hd => ?_)
       obtain rfl := Option.some.inj hd
       exact ⟨x5, rfl, hx0, hx1⟩
      ·have e3 : a.tmps[3]?.getD undef = .bool false := hfr 3 (by kernel_rfl)
       go_simp
       refine hK.out _ _ (by simpa [SX, Act.put, Array.getElem?_setIfInBounds] using hS) (fun d h => h) (fun d hd => ?_)
       obtain rfl := Option.some.inj hd
       exact rfl
      ·have e47 : a.tmps[47]?.getD undef = .pointer (some ⟨b, 0, none⟩) := hV 47 (by kernel_rfl)
       have e48 : a.tmps[48]?.getD undef = .agg #[.slice ag0 g0.length kg0, .slice ag1 g1.length kg1] := hV 48 (by kernel_rfl)
       have e49 : a.tmps[49]?.getD undef = .agg #[.string x0, .string x1, .slice a2 x2.length c2, .bool x3, .slice va k vc, .slice none 0 0] := hV 49 (by kernel_rfl)
       have e51 : a.tmps[51]?.getD undef = .int .i64 ty := hV 51 (by kernel_rfl)
       obtain ⟨x5, e54, hx0, hx1⟩ := hV 54 (by kernel_rfl)
       have e55 : a.tmps[55]?.getD undef = .bool false := hV 55 (by kernel_rfl)
       obtain rfl := hf (.inr (by kernel_rfl))
       have hp4 : 100 * 4 ^ x5.toNat ≤ 1600 := (by rcases (show x5.toNat = 0 ∨ x5.toNat = 1 ∨ x5.toNat = 2 by omega) with h | h | h <;> rw [h] <;> decide)
       have hCL := Lib.hid (l10Expr_any b x5.toNat d fg fr _ _ (g0, g1) (x0, x1, x2, x3, es, []) ty (1 + x5) w' (by omega) hS.1 (Rd.wr HRG3.out hS.2.1 (fun c hc hm => hbg (List.mem_singleton.1 hm ▸ hc))) (Rd.wr HRR3.out hS.2.1 (fun c hc hm => hbr (List.mem_singleton.1 hm ▸ hc))) hbg hbr HWT.out (fun s hs => (HS.out s hs).ok) (by show x2.length ≤ 1000; omega) HTY.out (by omega) (by omega))
       go_simp
       refine hCL.out.mono ?_
       rintro e u ⟨cs, fe, xe, rfl, hre, hwe, hfe, hce, hwx⟩
       obtain ⟨u0, u1, u2, u3, u4, u5, ua, ul, uc, rfl⟩ := rdExpr_shape hre
       refine hK.out _ u ?_ (fun d h => h) (fun d hd => ?_)
       ·have hs3 := hS.2.1.size
        obtain ⟨h91, h92, h93, h94, h95⟩ := SE.wr hS hbl3 hce hwx hDz
        refine ⟨h91, h92, fun _ _ => ⟨u0, u1, u2, u3, u4, u5, ua, ul, uc, fe, xe, ?_, hre, by omega, fun c hc => by have := hfe c hc; omega, ?_⟩, ?_, ?_⟩
        ·rw [← eval_tmp]; exact eval_put_self (by rw [HSZ.out]; exact of_decide_eq_true rfl)
        ·intro hq gn o hg hm
         have hq' : D 10 = true := by simpa using hq
         obtain ⟨g2, k1, k2, k3⟩ := hS.2.2.2.1 hDz hq'
         have k4 : a.tmps[15]?.getD undef = .pointer (some ⟨gn, o, none⟩) := by simpa [Act.put, Array.getElem?_setIfInBounds] using hg
         rw [k1] at k4
         cases k4
         have := k3.lt
         have := hfe _ hm
         omega
        ·simpa [Act.put, Array.getElem?_setIfInBounds] using h94
        ·simpa [Act.put, Array.getElem?_setIfInBounds] using h95
       ·obtain rfl := Option.some.inj hd
        exact trivial
      ·obtain rfl := hf (.inr (by kernel_rfl))
       go_simp
       refine hK.out _ _ ?_ (fun d h => h) (fun d hd => ?_)
       ·have hga := (Gr.alloc (Gr.refl w') (.cells #[.int .i64 0, .int .i64 0, .int .i64 0, .int .i64 0, .string ⟨#[]⟩, .string ⟨#[]⟩, .slice none 0 0] 157))
        obtain ⟨j1, j2, j3, j4, j5⟩ := hS
        refine ⟨j1.gr hga, j2.gr hga, fun hz hp => ?_, fun hz hq => ⟨_, ?_, j2.size, VRow.new rfl⟩, fun hz => ?_⟩
        ·obtain ⟨u0, u1, u2, u3, u4, u5, ua, ul, uc, fe, xe, k1, k2, k3, k4, k5⟩ := j3 hDz (by simpa using hp)
         refine ⟨u0, u1, u2, u3, u4, u5, ua, ul, uc, fe, xe, by simpa [Act.put, Array.getElem?_setIfInBounds] using k1, Rd.gr k2 hga, k3, k4, fun _ gn o hg hm => ?_⟩
         rw [← eval_tmp, eval_put_self (by rw [HSZ.out]; exact of_decide_eq_true rfl)] at hg
         cases hg
         have := Rd.lt k2 _ hm
         omega
        ·rw [← eval_tmp]; exact eval_put_self (by rw [HSZ.out]; exact of_decide_eq_true rfl)
        ·have : D 11 = true := by simpa using hz
         rw [hDz] at this; cases this
       ·obtain rfl := Option.some.inj hd
        exact trivial
      ·obtain rfl := hf (.inl rfl)
       obtain ⟨j1, j2, j3, j4, j5⟩ := hS
       obtain ⟨u0, u1, u2, u3, u4, u5, ua, ul, uc, fe, xe, k1, k2, k3, k4, k5⟩ := j3 hDz (hdone 9 (by kernel_rfl))
       obtain ⟨gn, m1, m2, m3⟩ := j4 hDz (hdone 10 (by kernel_rfl))
       have hne := k5 (hdone 10 (by kernel_rfl)) gn 0 m1
       have HVR := Lib.hid m3
       have HRE := Lib.hid k2
       have JC := Lib.hid j1
       have JW := Lib.hid j2
       have K4 := Lib.hid k4
       clear j1 j2 j3 j4 j5 k5 k2 k4
       have e0 := HVR.out.cell (k := 0) (by simp)
       have e1 := HVR.out.cell (k := 1) (by simp)
       have e2 := HVR.out.cell (k := 2) (by simp)
       have e3 := HVR.out.cell (k := 3) (by simp)
       have e4 := HVR.out.cell (k := 4) (by simp)
       have e5 := HVR.out.cell (k := 5) (by simp)
       have e6 := HVR.out.cell (k := 6) (by simp)
       have f0 := HVR.out.frozen 0
       have f1 := HVR.out.frozen 1
       have f2 := HVR.out.frozen 2
       have f3 := HVR.out.frozen 3
       have f4 := HVR.out.frozen 4
       have f5 := HVR.out.frozen 5
       have f6 := HVR.out.frozen 6
       have ze := blk e0
       go_simp
       generalize hU : (((((((w'.setCell ⟨gn, 0, none⟩ (.int .i64 u0)).setCell ⟨gn, 1, none⟩ (.int .i64 u1)).setCell ⟨gn, 2, none⟩ (.int .i64 u2)).setCell ⟨gn, 3, none⟩ (.int .i64 u3)).setCell ⟨gn, 4, none⟩ (.string u4)).setCell ⟨gn, 5, none⟩ (.string u5)).setCell ⟨gn, 6, none⟩ (.slice ua ul uc)) = U
       have vU : VRow U gn 157 [.int .i64 u0, .int .i64 u1, .int .i64 u2, .int .i64 u3, .string u4, .string u5, .slice ua ul uc] := by rw [← hU]; exact VRow.put7 HVR.out _ _ _ _ _ _ _
       have wU : Wr [gn] w' U := by rw [← hU]; exact Wr.put7 _ _ _ _ _ _ _ _ _
       clear hU
       have hdisj : ∀ c ∈ fe, c ∉ [gn] := fun c hc hm => hne (List.mem_singleton.1 hm ▸ hc)
       have jcU := JC.out.wr wU (fun x hx => by rw [List.mem_singleton.1 hx]; omega)
       have jwU := JW.out.more2 wU (fun x hx => .inr (by rw [List.mem_singleton.1 hx]; omega))
       refine hK.out undef U ⟨jcU, jwU, (fun hz => by cases hz), (fun hz => by cases hz), fun _ => ⟨gn, u0, u1, u2, u3, u4, u5, ua, ul, uc, fe, xe, m1, vU, Rd.wr HRE.out wU hdisj, k3, m2, fun c hc => ⟨K4.out c hc, fun e => hne (e ▸ hc)⟩, jcU, jwU⟩⟩ (fun d h => h) (fun d hd => by cases hd)
     ·intro D t W4 hall hlay hS4 hV
      obtain ⟨ge, u0, u1, u2, u3, u4, u5, ua, ul, uc, fe, xe, m1, m2, m3, m4, m5, m6, m7, m8⟩ := hS4.2.2.2.2 (hall 11 (of_decide_eq_true rfl))
      rw [hlay 15 (by kernel_rfl)] at m1
      simp only [layI, List.foldl_cons, List.foldl_nil, Act.put, List.setIfInBounds_toArray, List.set_cons_zero, List.set_cons_succ, m1]
      have g03 : Wr [b, w.heap.size + 1] W0 W3 := HW03.out
      have hw34 : Wr [b, w.heap.size + 1] W3 W4 := m8.sub (fun c hc => by rw [List.mem_singleton.1 hc]; simp)
      have hz34 := m8.size
      have HVE4 := Lib.hid m2
      have HRE4 := Lib.hid m3
      have HFE4 := Lib.hid (show ∀ c ∈ fe, W1.heap.size ≤ c ∧ c ≠ ge from fun c hc => by have := (m6 c hc).1; exact ⟨by omega, (m6 c hc).2⟩)
      have HC4 := Lib.hid m7
      have HW4 := Lib.hid (g03.trans hw34)
      have HO4 := Lib.hid ((HO.out.gr (G2T.out)).wr m8 (fun c hc hm => by have h1 := HFF.out c hc; have h2 := List.mem_singleton.1 hm; omega) (fun c hc hm => by have h1 := (HO.out.base c hc).1; have h2 := List.mem_singleton.1 hm; omega))
      have HVR4 := Lib.hid (HVR3.out.wr m8 (by simp; omega))
      have HVA4 := Lib.hid (HVA.out.wr m8 (by simp; omega))
      have HSO4 := Lib.hid ((HSO1.out.gr G2T.out).wr m8 (fun c hc hm => (HBO.out c hc).1 (List.mem_singleton.1 hm)))
      obtain ⟨csZ, feZ, hcZ, hrZ, -⟩ := HSO4.out.at hlt
      rw [← HYq.out] at hrZ
      have hcsZ := (rdOccurrence_inv (cs := csZ.toArray) q0 q1 (by simpa using hrZ)).1
      obtain rfl : csZ = [.int .i64 q0, .string q1] := by have := congrArg Array.toList hcsZ; simpa using this
      have qz0 : W4.cell? ⟨bq, offq + k * 2, none⟩ = some (.int .i64 q0) := by simpa [Rd.n] using hcZ 0 _ rfl
      have qz1 : W4.cell? ⟨bq, offq + k * 2 + 1, none⟩ = some (.string q1) := hcZ 1 _ rfl
      have qzb := blk qz0
      clear hcsZ hcZ hrZ
      have e0 := HVE4.out.cell (k := 0) (by simp)
      have e1 := HVE4.out.cell (k := 1) (by simp)
      have e2 := HVE4.out.cell (k := 2) (by simp)
      have e3 := HVE4.out.cell (k := 3) (by simp)
      have e4 := HVE4.out.cell (k := 4) (by simp)
      have e5 := HVE4.out.cell (k := 5) (by simp)
      have e6 := HVE4.out.cell (k := 6) (by simp)
      have ze := blk e0
      have hWE4 := m4
      clear m1 m2 m3 m6 m7 m8 hw34 g03 y0 y1 y2 y3 y4 y5 y6 y7 y8 zy0 zy2 zy8 hS4 hV hlay hall
      go_wp2_with fail
      refine (isValidExpr_some (by omega) _ _ xe _ HRE4.out (by omega)).mono ?_
      rintro e w' ⟨x8, rfl, x9, rfl⟩
      generalize hW5 : W4.ext x9 = W5 at *
      have g45 : Gr W4 W5 := by rw [← hW5]; exact gd
      clear hW5
      have hz45 := g45.size
      have HVE5 := Lib.hid (HVE4.out.gr g45)
      have HVR5 := Lib.hid (HVR4.out.gr g45)
      have HVA5 := Lib.hid (HVA4.out.gr g45)
      have HO5 := Lib.hid (HO4.out.gr g45)
      have HC5 := Lib.hid (HC4.out.gr g45)
      have HW5 := Lib.hid (HW4.out.gr g45)
      have HSO5 := Lib.hid (HSO4.out.gr g45)
      have HRE5 := Lib.hid (Rd.gr HRE4.out g45)
      clear e0 e1 e2 e3 e4 e5 e6 ze qz0 qz1 qzb g45 HVE4 HVR4 HVA4 HO4 HC4 HW4 HRE4
      cases x8 with
      | true =>
       obtain ⟨csZ, feZ, hcZ, hrZ, -⟩ := HSO5.out.at hlt
       rw [← HYq.out] at hrZ
       have hcsZ := (rdOccurrence_inv (cs := csZ.toArray) q0 q1 (by simpa using hrZ)).1
       obtain rfl : csZ = [.int .i64 q0, .string q1] := by have := congrArg Array.toList hcsZ; simpa using this
       have qz0 : W5.cell? ⟨bq, offq + k * 2, none⟩ = some (.int .i64 q0) := by simpa [Rd.n] using hcZ 0 _ rfl
       have qz1 : W5.cell? ⟨bq, offq + k * 2 + 1, none⟩ = some (.string q1) := hcZ 1 _ rfl
       have qzb := blk qz0
       clear hcsZ hcZ hrZ
       have e0 := HVE5.out.cell (k := 0) (by simp)
       have e1 := HVE5.out.cell (k := 1) (by simp)
       have e2 := HVE5.out.cell (k := 2) (by simp)
       have e3 := HVE5.out.cell (k := 3) (by simp)
       have e4 := HVE5.out.cell (k := 4) (by simp)
       have e5 := HVE5.out.cell (k := 5) (by simp)
       have e6 := HVE5.out.cell (k := 6) (by simp)
       have ze := blk e0
       have p4 := HVR5.out.cell (k := 4) (by simp)
       have fp4 := HVR5.out.frozen 4
       have zp4 := blk p4
       have hz5 := HW5.out.size
       have HRQ5 := Lib.hid (show Rd.rd ([] ++ fe) W5 (([.int .i64 q0, .string q1] : List Value) ++ [.int .i64 u0, .int .i64 u1, .int .i64 u2, .int .i64 u3, .string u4, .string u5, .slice ua ul uc]) (((q0, q1), xe) : GEquation d) from ⟨_, _, _, _, rfl, rfl, rdOccurrence_mk q0 q1 HQ.out.1 hq1, HRE5.out⟩)
       have hvnr : w.heap.size + 1 ∉ (Value.slice va k vc).ownBlock.toList := fun hm => by have h1 := (HO5.out.base (w.heap.size + 1) (by simpa using hm)).1; omega
       have HAP5 := Lib.hid (show ∀ c, (Value.slice va k vc).ownBlock = some c → c ∉ [([] ++ fe : List Nat)].flatten from fun c hc hm => by
        have h1 := (HO.out.base c hc).2
        have h2 := (HFE4.out c (by simpa using hm)).1
        omega)
       have HVNR := Lib.hid hvnr
       have HEW5 := Lib.hid (show Gr E W5 from hEg.wr ((HGW.out.toWr [b, w.heap.size + 1]).trans HW5.out) (fun c _ => by omega))
       have HVW := Lib.hid (show ∀ c ∈ (Value.slice va k vc).ownBlock.toList, W0.heap.size ≤ c from fun c hc => (HO5.out.base c (by simpa using hc)).1)
       clear hvnr
       obtain ⟨OWN, hOWN⟩ : ∃ l, l = (Value.slice va k vc).ownBlock.toList := ⟨_, rfl⟩
       have hbq0 : bq < W0.heap.size := by
        obtain ⟨a', c', he, _, _, o3⟩ := HSO.out.open
        injection he with he1 _ _
        obtain ⟨b', off', e, hlt'⟩ := o3 k hlt
        have e1 : bq = b' := congrArg Addr.block (Option.some.inj (he1.trans e))
        rw [e1]; exact hlt'
       have hown0 : ∀ c ∈ OWN, W0.heap.size ≤ c ∧ c < W1.heap.size := fun c hc => by rw [hOWN] at hc; exact ⟨HVW.out c hc, (HO.out.base c (by simpa using hc)).2⟩
       have HNO1 := Lib.hid (show w.heap.size + 1 ∉ OWN from fun hm => by have := (hown0 _ hm).1; omega)
       have HNO2 := Lib.hid (show ge ∉ OWN from fun hm => by have := (hown0 _ hm).2; omega)
       have HNO3 := Lib.hid (show bq ∉ OWN from fun hm => by have := (hown0 _ hm).1; omega)
       have HOWN := Lib.hid hOWN
       clear hOWN hown0
       have kk0 := fun (w' : World) (h : Wr OWN W5 w') => h.keepC p4 HNO1.out
       have kk1 := fun (w' : World) (h : Wr OWN W5 w') => h.keepC qz0 HNO3.out
       have kk2 := fun (w' : World) (h : Wr OWN W5 w') => h.keepC qz1 HNO3.out
       have kk3 := fun (w' : World) (h : Wr OWN W5 w') => h.keepC e0 HNO2.out
       have kk4 := fun (w' : World) (h : Wr OWN W5 w') => h.keepC e1 HNO2.out
       have kk5 := fun (w' : World) (h : Wr OWN W5 w') => h.keepC e2 HNO2.out
       have kk6 := fun (w' : World) (h : Wr OWN W5 w') => h.keepC e3 HNO2.out
       have kk7 := fun (w' : World) (h : Wr OWN W5 w') => h.keepC e4 HNO2.out
       have kk8 := fun (w' : World) (h : Wr OWN W5 w') => h.keepC e5 HNO2.out
       have kk9 := fun (w' : World) (h : Wr OWN W5 w') => h.keepC e6 HNO2.out
       go_wp2_with fail
       refine wp_region_U (fun w' => Wr OWN W5 w') 11 (by kernel_rfl) ((gd : Gr W5 W5.drew).toWr OWN) (fun hU => ?_)
       refine anyU_q 0 ?_
       try simp only [Act.put, uq1, uq2, uq3]
       refine anyU_q 2 ?_
       try simp only [Act.put, uq1, uq2, uq3]
       refine anyU_q 3 ?_
       try simp only [Act.put, uq1, uq2, uq3]
       refine anyU_q 6 ?_
       try simp only [Act.put, uq1, uq2, uq3]
       refine anyU_q 1 ?_
       try simp only [Act.put, uq1, uq2, uq3]
       refine anyU_q 4 ?_
       try simp only [Act.put, uq1, uq2, uq3]
       refine anyU_q 5 ?_
       try simp only [Act.put, uq1, uq2, uq3]
       refine anyU_q 7 ?_
       try simp only [Act.put, uq1, uq2, uq3]
       refine anyU_ready (rs := [8]) (by kernel_rfl) (by simp) ?_
       refine (ReadyU.cons rfl (fun K hK => ?_) ReadyU.nil)
       go_simp
       refine hK.out _ _ ((gd : Gr W5 (W5.drew.alloc (.cells #[.int .i64 q0, .string q1, .int .i64 u0, .int .i64 u1, .int .i64 u2, .int .i64 u3, .string u4, .string u5, .slice ua ul uc] 162))).toWr OWN) (fun hU3 => ?_)
       clear hK K
       try simp only [Act.put, uq1, uq2, uq3]
       refine anyU_ready (rs := [9]) (by kernel_rfl) (by simp) ?_
       refine (ReadyU.cons rfl (fun K hK => ?_) ReadyU.nil)
       refine step_append_RB (α := GEquation d) (wg := E) (w0 := W0) (HEW5.out.trans gd) (by omega) (by simp; omega) (by rfl) _ _ _ (by rfl) 162 i0 (.agg #[.int .i64 0, .string ByteArray.empty, .int .i64 0, .int .i64 0, .int .i64 0, .int .i64 0, .string ByteArray.empty, .string ByteArray.empty, .slice none 0 0]) 112 Try.underlying135 HZ.out.1 HZ.out.2.1 HZ.out.2.2.1 HZ.out.2.2.2 rfl (.slice va k vc) fps es (by rfl) (HO5.out.gr gd) _ [([] ++ fe : List Nat)] [((q0, q1), xe)] (by rfl) (SrcR.one (w := W5.drew) (by simp) (Rd.gr HRQ5.out gd)) HAP5.out (by unfold maxLen; simp; omega) (by simp; omega) ?_
       intro v3 w3 h1 h2 h3 h4
       obtain ⟨va3, vc3, hv3⟩ := h1.form
       rw [show (es ++ [(((q0, q1), xe) : GEquation d)]).length = k + 1 from by simp [hel]] at hv3
       subst hv3
       have K1 := Lib.hid h1
       have k2 := ((Gr.toWr (show Gr W5 (W5.drew.alloc (.cells #[.int .i64 q0, .string q1, .int .i64 u0, .int .i64 u1, .int .i64 u2, .int .i64 u3, .string u4, .string u5, .slice ua ul uc] 162)) from gd) _).trans h2)
       have K3 := Lib.hid (show ∀ c ∈ (Value.slice va3 (k + 1) vc3).ownBlock.toList, c ∈ (Value.slice va k vc).ownBlock.toList ∨ W5.heap.size ≤ c from fun c hc => h3.elim (fun e => .inl (by rw [e] at hc; exact hc)) (fun e => .inr (by rw [e] at hc; simp at hc; omega)))
       have z9 := k2.size
       have v31 := k2.keepC p4 HVNR.out
       have zv31 := blk v31
       have fv31 := k2.frozenC fp4 zp4 HVNR.out
       have K2 := Lib.hid k2
       rw [← HOWN.out] at k2
       refine hK.out _ _ k2 (fun hU4 => ?_)
       clear h1 h2 h3 h4 k2
       clear hK K
       try simp only [Act.put, uq1, uq2, uq3]
       refine anyU_q 10 ?_
       try simp only [Act.put, uq1, uq2, uq3]
       refine anyU_ready (rs := [11]) (by kernel_rfl) (by simp) ?_
       refine ReadyU.last rfl (fun K hK => ?_)
       go_simp
       refine hK.out _ _ ?_
       clear hK K
       try simp only [Act.put, uq1, uq2, uq3]
       refine anyU_done (by kernel_rfl) ?_ _
       go_wp2_with fail
       have hvo : ∀ c ∈ (Value.slice va3 (k + 1) vc3).ownBlock.toList, W0.heap.size ≤ c := fun c hc => by
        rcases K3.out c hc with h | h
        ·exact HVW.out c h
        ·omega
       have wst : Wr [w.heap.size + 1] w3 (w3.setCell ⟨w.heap.size + 1, 4, none⟩ (.slice va3 (k + 1) vc3)) := Wr.setCell (Wr.refl [w.heap.size + 1] w3) (List.mem_singleton.2 rfl) _
       have hfs : ∀ c ∈ (fps ++ [([] ++ fe : List Nat)]).flatten, W0.heap.size ≤ c := fun c hc => by
        rw [List.flatten_append] at hc
        rcases List.mem_append.1 hc with h | h
        ·exact HFF.out c h
        ·have := (HFE4.out c (by simpa using h)).1; omega
       have hwq : wtEquation (((q0, q1), xe) : GEquation d) ≤ 1700 := by
        show q1.size + wtExpr xe ≤ 1700
        have h1 := HQ.out.2
        omega
       refine ⟨⟨k + 1, by omega, ⟨_, fps ++ [([] ++ fe : List Nat)], es ++ [((q0, q1), xe)], K1.out.wr wst (fun c hc hm => by have h1 := hfs c hc; have h2 := List.mem_singleton.1 hm; omega) (fun c hc hm => by have h1 := hvo c (by simpa using hc); have h2 := List.mem_singleton.1 hm; omega), hfs, by simp [hel], fun e he => ?_, (HVR5.out.wr K2.out HVNR.out).set 4 _, (HC5.out.wr K2.out (fun x hx => by have := HVW.out x hx; omega)).wr wst (fun x hx => by rw [List.mem_singleton.1 hx]; omega), (HW5.out.more2 K2.out (fun x hx => .inr (HVW.out x hx))).more2 wst (fun x hx => .inl (by rw [List.mem_singleton.1 hx]; simp))⟩, by go_num⟩, by simp [intOf]; omega⟩
       rcases List.mem_append.1 he with h | h
       ·exact HEW.out e h
       ·rw [List.mem_singleton.1 h]; exact hwq
      | false =>
       have t0 := HVA5.out.cell (k := 1) (by simp)
       have zt0 := blk t0
       have hga5 := HVA5.out.lt
       have hge5 := HVE5.out.lt
       go_wp2_with fail
       refine (l4Leaf_any d b ty [] (.slice (some ⟨W5.heap.size, 0, none⟩) 0 0) [] _ (HC5.out.gr gd) ⟨some ⟨W5.heap.size, 0, none⟩, 0, rfl, Nat.le_refl _, by simp, .inl ⟨rfl, rfl⟩⟩ (by simp) (by simp) (by simp) HTW.out).mono ?_
       rintro e W6 ⟨cs, fe, xe, rfl, hre, hwe, hfe, hce, hwx⟩
       obtain ⟨u0, u1, u2, u3, u4, u5, ua, ul, uc, rfl⟩ := rdExpr_shape hre
       have w56 := ((Gr.alloc (Gr.refl W5) _).toWr [b]).trans hwx
       have hz56 := w56.size
       have HVR := Lib.hid (HVE5.out.wr w56 (by simp; omega))
       have HRE := Lib.hid hre
       have HVR6 := Lib.hid (HVR5.out.wr w56 (by simp; omega))
       have HO6 := Lib.hid (HO5.out.wr w56 (fun c hc hm => by have h1 := HFF.out c hc; have h2 := List.mem_singleton.1 hm; omega) (fun c hc hm => by have h1 := (HO.out.base c hc).1; have h2 := List.mem_singleton.1 hm; omega))
       have HSO6 := Lib.hid (HSO5.out.wr w56 (fun c hc hm => (HBO.out c hc).1 (List.mem_singleton.1 hm)))
       have HFE6 := Lib.hid (show ∀ c ∈ fe, W1.heap.size ≤ c ∧ c ≠ ge from fun c hc => by have := hfe c hc; simp at this; omega)
       have HC6 := Lib.hid hce
       have HW6 := Lib.hid (HW5.out.trans (w56.sub (fun c hc => by rw [List.mem_singleton.1 hc]; simp)))
       clear hre hce hwx w56 hfe t0 zt0
       have e0 := HVR.out.cell (k := 0) (by simp)
       have e1 := HVR.out.cell (k := 1) (by simp)
       have e2 := HVR.out.cell (k := 2) (by simp)
       have e3 := HVR.out.cell (k := 3) (by simp)
       have e4 := HVR.out.cell (k := 4) (by simp)
       have e5 := HVR.out.cell (k := 5) (by simp)
       have e6 := HVR.out.cell (k := 6) (by simp)
       have f0 := HVR.out.frozen 0
       have f1 := HVR.out.frozen 1
       have f2 := HVR.out.frozen 2
       have f3 := HVR.out.frozen 3
       have f4 := HVR.out.frozen 4
       have f5 := HVR.out.frozen 5
       have f6 := HVR.out.frozen 6
       have ze := blk e0
       go_upto_region 10 with fail
       generalize hU : (((((((W6.setCell ⟨ge, 0, none⟩ (.int .i64 u0)).setCell ⟨ge, 1, none⟩ (.int .i64 u1)).setCell ⟨ge, 2, none⟩ (.int .i64 u2)).setCell ⟨ge, 3, none⟩ (.int .i64 u3)).setCell ⟨ge, 4, none⟩ (.string u4)).setCell ⟨ge, 5, none⟩ (.string u5)).setCell ⟨ge, 6, none⟩ (.slice ua ul uc)) = U
       have vU : VRow U ge 157 [.int .i64 u0, .int .i64 u1, .int .i64 u2, .int .i64 u3, .string u4, .string u5, .slice ua ul uc] := by rw [← hU]; exact VRow.put7 HVR.out _ _ _ _ _ _ _
       have wU : Wr [ge] W6 U := by rw [← hU]; exact Wr.put7 _ _ _ _ _ _ _ _ _
       clear hU
       clear e0 e1 e2 e3 e4 e5 e6 f0 f1 f2 f3 f4 f5 f6 ze
       have hzU := wU.size
       have HGF := Lib.hid (And.intro (show ∀ c ∈ fps.flatten, c ≠ ge from fun c hc => by have := HO.out.lt c hc; omega) (show ∀ c, (Value.slice va k vc).ownBlock = some c → c ≠ ge from fun c hc => by have := (HO.out.base c hc).2; omega))
       have HVE7 := Lib.hid vU
       have HRE7 := Lib.hid (Rd.wr HRE.out wU (fun c hc hm => (HFE6.out c hc).2 (List.mem_singleton.1 hm)))
       have HVR7 := Lib.hid (HVR6.out.wr wU (by simp; omega))
       have HO7 := Lib.hid (HO6.out.wr wU (fun c hc hm => HGF.out.1 c hc (List.mem_singleton.1 hm)) (fun c hc hm => HGF.out.2 c hc (List.mem_singleton.1 hm)))
       have HC7 := Lib.hid (HC6.out.wr wU (fun x hx => by rw [List.mem_singleton.1 hx]; omega))
       have HW7 := Lib.hid (HW6.out.more2 wU (fun x hx => .inr (by rw [List.mem_singleton.1 hx]; omega)))
       have HSO7 := Lib.hid (HSO6.out.wr wU (fun c hc hm => by have h1 := HSO.out.lt c hc; have h2 := List.mem_singleton.1 hm; omega))
       clear wU vU
       obtain ⟨csZ, feZ, hcZ, hrZ, -⟩ := HSO7.out.at hlt
       rw [← HYq.out] at hrZ
       have hcsZ := (rdOccurrence_inv (cs := csZ.toArray) q0 q1 (by simpa using hrZ)).1
       obtain rfl : csZ = [.int .i64 q0, .string q1] := by have := congrArg Array.toList hcsZ; simpa using this
       have qz0 : U.cell? ⟨bq, offq + k * 2, none⟩ = some (.int .i64 q0) := by simpa [Rd.n] using hcZ 0 _ rfl
       have qz1 : U.cell? ⟨bq, offq + k * 2 + 1, none⟩ = some (.string q1) := hcZ 1 _ rfl
       have qzb := blk qz0
       clear hcsZ hcZ hrZ
       have e0 := HVE7.out.cell (k := 0) (by simp)
       have e1 := HVE7.out.cell (k := 1) (by simp)
       have e2 := HVE7.out.cell (k := 2) (by simp)
       have e3 := HVE7.out.cell (k := 3) (by simp)
       have e4 := HVE7.out.cell (k := 4) (by simp)
       have e5 := HVE7.out.cell (k := 5) (by simp)
       have e6 := HVE7.out.cell (k := 6) (by simp)
       have ze := blk e0
       have p4 := HVR7.out.cell (k := 4) (by simp)
       have fp4 := HVR7.out.frozen 4
       have zp4 := blk p4
       have hz5 := HW7.out.size
       have HRQ5 := Lib.hid (show Rd.rd ([] ++ fe) U (([.int .i64 q0, .string q1] : List Value) ++ [.int .i64 u0, .int .i64 u1, .int .i64 u2, .int .i64 u3, .string u4, .string u5, .slice ua ul uc]) (((q0, q1), xe) : GEquation d) from ⟨_, _, _, _, rfl, rfl, rdOccurrence_mk q0 q1 HQ.out.1 hq1, HRE7.out⟩)
       have hvnr : w.heap.size + 1 ∉ (Value.slice va k vc).ownBlock.toList := fun hm => by have h1 := (HO7.out.base (w.heap.size + 1) (by simpa using hm)).1; omega
       have HAP5 := Lib.hid (show ∀ c, (Value.slice va k vc).ownBlock = some c → c ∉ [([] ++ fe : List Nat)].flatten from fun c hc hm => by
        have h1 := (HO.out.base c hc).2
        have h2 := (HFE6.out c (by simpa using hm)).1
        omega)
       have HVNR := Lib.hid hvnr
       have HEW5 := Lib.hid (show Gr E U from hEg.wr ((HGW.out.toWr [b, w.heap.size + 1]).trans HW7.out) (fun c _ => by omega))
       have HVW := Lib.hid (show ∀ c ∈ (Value.slice va k vc).ownBlock.toList, W0.heap.size ≤ c from fun c hc => (HO7.out.base c (by simpa using hc)).1)
       clear hvnr
       obtain ⟨OWN, hOWN⟩ : ∃ l, l = (Value.slice va k vc).ownBlock.toList := ⟨_, rfl⟩
       have hbq0 : bq < W0.heap.size := by
        obtain ⟨a', c', he, _, _, o3⟩ := HSO.out.open
        injection he with he1 _ _
        obtain ⟨b', off', e, hlt'⟩ := o3 k hlt
        have e1 : bq = b' := congrArg Addr.block (Option.some.inj (he1.trans e))
        rw [e1]; exact hlt'
       have hown0 : ∀ c ∈ OWN, W0.heap.size ≤ c ∧ c < W1.heap.size := fun c hc => by rw [hOWN] at hc; exact ⟨HVW.out c hc, (HO.out.base c (by simpa using hc)).2⟩
       have HNO1 := Lib.hid (show w.heap.size + 1 ∉ OWN from fun hm => by have := (hown0 _ hm).1; omega)
       have HNO2 := Lib.hid (show ge ∉ OWN from fun hm => by have := (hown0 _ hm).2; omega)
       have HNO3 := Lib.hid (show bq ∉ OWN from fun hm => by have := (hown0 _ hm).1; omega)
       have HOWN := Lib.hid hOWN
       clear hOWN hown0
       have kk0 := fun (w' : World) (h : Wr OWN U w') => h.keepC p4 HNO1.out
       have kk1 := fun (w' : World) (h : Wr OWN U w') => h.keepC qz0 HNO3.out
       have kk2 := fun (w' : World) (h : Wr OWN U w') => h.keepC qz1 HNO3.out
       have kk3 := fun (w' : World) (h : Wr OWN U w') => h.keepC e0 HNO2.out
       have kk4 := fun (w' : World) (h : Wr OWN U w') => h.keepC e1 HNO2.out
       have kk5 := fun (w' : World) (h : Wr OWN U w') => h.keepC e2 HNO2.out
       have kk6 := fun (w' : World) (h : Wr OWN U w') => h.keepC e3 HNO2.out
       have kk7 := fun (w' : World) (h : Wr OWN U w') => h.keepC e4 HNO2.out
       have kk8 := fun (w' : World) (h : Wr OWN U w') => h.keepC e5 HNO2.out
       have kk9 := fun (w' : World) (h : Wr OWN U w') => h.keepC e6 HNO2.out
       go_wp2_with fail
       refine wp_region_U (fun w' => Wr OWN U w') 11 (by kernel_rfl) ((gd : Gr U U.drew).toWr OWN) (fun hU => ?_)
       refine anyU_q 0 ?_
       try simp only [Act.put, uq1, uq2, uq3]
       refine anyU_q 2 ?_
       try simp only [Act.put, uq1, uq2, uq3]
       refine anyU_q 3 ?_
       try simp only [Act.put, uq1, uq2, uq3]
       refine anyU_q 6 ?_
       try simp only [Act.put, uq1, uq2, uq3]
       refine anyU_q 1 ?_
       try simp only [Act.put, uq1, uq2, uq3]
       refine anyU_q 4 ?_
       try simp only [Act.put, uq1, uq2, uq3]
       refine anyU_q 5 ?_
       try simp only [Act.put, uq1, uq2, uq3]
       refine anyU_q 7 ?_
       try simp only [Act.put, uq1, uq2, uq3]
       refine anyU_ready (rs := [8]) (by kernel_rfl) (by simp) ?_
       refine (ReadyU.cons rfl (fun K hK => ?_) ReadyU.nil)
       go_simp
       refine hK.out _ _ ((gd : Gr U (U.drew.alloc (.cells #[.int .i64 q0, .string q1, .int .i64 u0, .int .i64 u1, .int .i64 u2, .int .i64 u3, .string u4, .string u5, .slice ua ul uc] 162))).toWr OWN) (fun hU3 => ?_)
       clear hK K
       try simp only [Act.put, uq1, uq2, uq3]
       refine anyU_ready (rs := [9]) (by kernel_rfl) (by simp) ?_
       refine (ReadyU.cons rfl (fun K hK => ?_) ReadyU.nil)
       refine step_append_RB (α := GEquation d) (wg := E) (w0 := W0) (HEW5.out.trans gd) (by omega) (by simp; omega) (by rfl) _ _ _ (by rfl) 162 i0 (.agg #[.int .i64 0, .string ByteArray.empty, .int .i64 0, .int .i64 0, .int .i64 0, .int .i64 0, .string ByteArray.empty, .string ByteArray.empty, .slice none 0 0]) 112 Try.underlying135 HZ.out.1 HZ.out.2.1 HZ.out.2.2.1 HZ.out.2.2.2 rfl (.slice va k vc) fps es (by rfl) (HO7.out.gr gd) _ [([] ++ fe : List Nat)] [((q0, q1), xe)] (by rfl) (SrcR.one (w := U.drew) (by simp) (Rd.gr HRQ5.out gd)) HAP5.out (by unfold maxLen; simp; omega) (by simp; omega) ?_
       intro v3 w3 h1 h2 h3 h4
       obtain ⟨va3, vc3, hv3⟩ := h1.form
       rw [show (es ++ [(((q0, q1), xe) : GEquation d)]).length = k + 1 from by simp [hel]] at hv3
       subst hv3
       have K1 := Lib.hid h1
       have k2 := ((Gr.toWr (show Gr U (U.drew.alloc (.cells #[.int .i64 q0, .string q1, .int .i64 u0, .int .i64 u1, .int .i64 u2, .int .i64 u3, .string u4, .string u5, .slice ua ul uc] 162)) from gd) _).trans h2)
       have K3 := Lib.hid (show ∀ c ∈ (Value.slice va3 (k + 1) vc3).ownBlock.toList, c ∈ (Value.slice va k vc).ownBlock.toList ∨ U.heap.size ≤ c from fun c hc => h3.elim (fun e => .inl (by rw [e] at hc; exact hc)) (fun e => .inr (by rw [e] at hc; simp at hc; omega)))
       have z9 := k2.size
       have v31 := k2.keepC p4 HVNR.out
       have zv31 := blk v31
       have fv31 := k2.frozenC fp4 zp4 HVNR.out
       have K2 := Lib.hid k2
       rw [← HOWN.out] at k2
       refine hK.out _ _ k2 (fun hU4 => ?_)
       clear h1 h2 h3 h4 k2
       clear hK K
       try simp only [Act.put, uq1, uq2, uq3]
       refine anyU_q 10 ?_
       try simp only [Act.put, uq1, uq2, uq3]
       refine anyU_ready (rs := [11]) (by kernel_rfl) (by simp) ?_
       refine ReadyU.last rfl (fun K hK => ?_)
       go_simp
       refine hK.out _ _ ?_
       clear hK K
       try simp only [Act.put, uq1, uq2, uq3]
       refine anyU_done (by kernel_rfl) ?_ _
       go_wp2_with fail
       have hvo : ∀ c ∈ (Value.slice va3 (k + 1) vc3).ownBlock.toList, W0.heap.size ≤ c := fun c hc => by
        rcases K3.out c hc with h | h
        ·exact HVW.out c h
        ·omega
       have wst : Wr [w.heap.size + 1] w3 (w3.setCell ⟨w.heap.size + 1, 4, none⟩ (.slice va3 (k + 1) vc3)) := Wr.setCell (Wr.refl [w.heap.size + 1] w3) (List.mem_singleton.2 rfl) _
       have hfs : ∀ c ∈ (fps ++ [([] ++ fe : List Nat)]).flatten, W0.heap.size ≤ c := fun c hc => by
        rw [List.flatten_append] at hc
        rcases List.mem_append.1 hc with h | h
        ·exact HFF.out c h
        ·have := (HFE6.out c (by simpa using h)).1; omega
       have hwq : wtEquation (((q0, q1), xe) : GEquation d) ≤ 1700 := by
        show q1.size + wtExpr xe ≤ 1700
        have h1 := HQ.out.2
        omega
       refine ⟨⟨k + 1, by omega, ⟨_, fps ++ [([] ++ fe : List Nat)], es ++ [((q0, q1), xe)], K1.out.wr wst (fun c hc hm => by have h1 := hfs c hc; have h2 := List.mem_singleton.1 hm; omega) (fun c hc hm => by have h1 := hvo c (by simpa using hc); have h2 := List.mem_singleton.1 hm; omega), hfs, by simp [hel], fun e he => ?_, (HVR7.out.wr K2.out HVNR.out).set 4 _, (HC7.out.wr K2.out (fun x hx => by have := HVW.out x hx; omega)).wr wst (fun x hx => by rw [List.mem_singleton.1 hx]; omega), (HW7.out.more2 K2.out (fun x hx => .inr (HVW.out x hx))).more2 wst (fun x hx => .inl (by rw [List.mem_singleton.1 hx]; simp))⟩, by go_num⟩, by simp [intOf]; omega⟩
       rcases List.mem_append.1 he with h | h
       ·exact HEW.out e h
       ·rw [List.mem_singleton.1 h]; exact hwq
  ·have k1 : ¬ (k : Int) < (os.length : Int) := by omega
   have y0 := HVR.out.cell (k := 0) (by simp)
   have y1 := HVR.out.cell (k := 1) (by simp)
   have y2 := HVR.out.cell (k := 2) (by simp)
   have y3 := HVR.out.cell (k := 3) (by simp)
   have y4 := HVR.out.cell (k := 4) (by simp)
   have y5 := HVR.out.cell (k := 5) (by simp)
   have zy0 := blk y0
   have s0 := HVS.out.cell (k := 0) (by simp)
   have s1 := HVS.out.cell (k := 1) (by simp)
   have s2 := HVS.out.cell (k := 2) (by simp)
   have s3 := HVS.out.cell (k := 3) (by simp)
   have s4 := HVS.out.cell (k := 4) (by simp)
   have s5 := HVS.out.cell (k := 5) (by simp)
   have f0 := HVS.out.frozen 0
   have f1 := HVS.out.frozen 1
   have f2 := HVS.out.frozen 2
   have f3 := HVS.out.frozen 3
   have f4 := HVS.out.frozen 4
   have f5 := HVS.out.frozen 5
   have zs0 := blk s0
   go_wp2_with fail
   generalize hU : ((((((W1.setCell ⟨w.heap.size + 1 + 1, 0, none⟩ (.string x0)).setCell ⟨w.heap.size + 1 + 1, 1, none⟩ (.string x1)).setCell ⟨w.heap.size + 1 + 1, 2, none⟩ (.slice a2 x2.length c2)).setCell ⟨w.heap.size + 1 + 1, 3, none⟩ (.bool x3)).setCell ⟨w.heap.size + 1 + 1, 4, none⟩ (.slice va k vc)).setCell ⟨w.heap.size + 1 + 1, 5, none⟩ (.slice none 0 0)) = U
   have vU : VRow U (w.heap.size + 1 + 1) 138 [.string x0, .string x1, .slice a2 x2.length c2, .bool x3, .slice va k vc, .slice none 0 0] := by rw [← hU]; exact VRow.put6 HVS.out _ _ _ _ _ _
   have wU : Wr [w.heap.size + 1 + 1] W1 U := by rw [← hU]; exact Wr.put6 _ _ _ _ _ _ _ _
   clear hU
   have r0 := vU.cell (k := 0) (by simp)
   have r1 := vU.cell (k := 1) (by simp)
   have r2 := vU.cell (k := 2) (by simp)
   have r3 := vU.cell (k := 3) (by simp)
   have r4 := vU.cell (k := 4) (by simp)
   have r5 := vU.cell (k := 5) (by simp)
   obtain ⟨f4, h4, hf4⟩ := HO.out.slR (by unfold reachLen; omega)
   have hgs : w.heap.size + 1 + 1 ∉ f4 := fun hm => by
    rcases hf4 with ⟨-, rfl⟩ | ⟨z, hz, rfl⟩
    ·cases hm
    ·have h3 := (HO.out.base z hz).1
     have hz9 := VS.out.lt
     rcases List.mem_cons.1 hm with h | h
     ·omega
     ·have := HFF.out _ h; omega
   refine bodyPost_ret (v := .agg #[.string x0, .string x1, .slice a2 x2.length c2, .bool x3, .slice va k vc, .slice none 0 0]) (by simp [results, Try.results95, go_sem, r0, r1, r2, r3, r4, r5]) rfl ⟨_, f4, es, rfl, h4.wr wU (fun c hc hm => hgs (List.mem_singleton.1 hm ▸ hc)), ?_, fun c hc => ?_, HC1.out.wr wU (fun x hx => by rw [List.mem_singleton.1 hx]; omega), ?_⟩
   ·show wtL wtEquation es ≤ 30000
    have := wtL_le wtEquation es (K := 1700) HEW.out
    rw [hel] at this
    have hk16 : k ≤ 16 := by omega
    have h2 : k * (1 + 1700) ≤ 16 * (1 + 1700) := Nat.mul_le_mul_right _ hk16
    omega
   ·rcases hf4 with ⟨-, rfl⟩ | ⟨z, hz, rfl⟩
    ·cases hc
    ·have h3 := (HO.out.base z hz).1
     rcases List.mem_cons.1 hc with h | h
     ·omega
     ·have := HFF.out _ h; omega
   ·exact ((((HGW.out.toWr [b]).more2 HW.out (fun x hx => by
     rcases List.mem_cons.1 hx with h | h
     ·exact .inl (by rw [h]; simp)
     ·exact .inr (by rw [List.mem_singleton.1 h]; omega))).more2 wU (fun x hx => .inr (by rw [List.mem_singleton.1 hx]; omega))))
end Go.Proofs.Ytmfcagcanhmdbaa
