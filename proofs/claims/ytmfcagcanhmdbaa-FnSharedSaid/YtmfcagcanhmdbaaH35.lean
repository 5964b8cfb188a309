/- A rule picked for a symbol. No condition. -/
import Derived.Test.YtmfcagcanhmdbaaH33
import Derived.Test.YtmfcagcanhmdbaaH29
import Derived.Test.YtmfcagcanhmdbaaH34
import Derived.Test.YtmfcagcanhmdbaaH28
namespace Go.Proofs.Ytmfcagcanhmdbaa
open Go.RowKit
set_option linter.unusedVariables false
set_option linter.unusedSimpArgs false
variable {d : Nat}

def hh (g : GGrammar d) (n : ByteArray) : Int := (hts g g.1.length).getD (atS g.1 n).toNat 0
def RuleFine (x : GRule d) : Prop := x.1.size ≤ 68 ∧ x.2.2.1.length ≤ 3 ∧ ∀ s ∈ x.2.2.1, s.size ≤ 64
def LowR (g : GGrammar d) (sym : ByteArray) (x : GRule d) : Prop := RuleFine x ∧ ∀ c ∈ x.2.2.1, hh g c < hh g sym
def RuleGot (d b : Nat) (g : GGrammar d) (sym : ByteArray) (room : Int) (w : World) (e : Ending) (w' : World) : Prop :=
 ∃ (cs : Array Value) (fq : List Nat) (x : GRule d), e = .returned (.agg cs) ∧ Rd.rd fq w' cs.toList x ∧ RuleFine x ∧ (room < 5 → ∀ c ∈ x.2.2.1, hh g c < hh g sym) ∧ (∀ c ∈ fq, w.heap.size ≤ c) ∧ CurR w' b ∧ Wr [b] w w'
theorem zero_fine : RuleFine (zeroR : GRule d) := ⟨Nat.zero_le _, Nat.zero_le _, by simp [zeroR]⟩
theorem look_fine {g : GGrammar d} (h : GramOK g) (n : ByteArray) : RuleFine ((lookR g.2 n).getD zeroR) := by
 cases hl : lookR g.2 n with
 | none => exact zero_fine
 | some r =>
  obtain ⟨-, -, -, -, h5⟩ := h
  have := h5 r (List.mem_of_find?_eq_some hl)
  exact ⟨this.1, this.2.2.1, this.2.2.2.1⟩
theorem GramOK.wt {g : GGrammar d} (h : GramOK g) : wtGrammar g ≤ 1048576 := by
 obtain ⟨g0, g1⟩ := g
 obtain ⟨h1, h2, h3, h4, h5⟩ := h
 refine gram_wt h2 h3 h4 (fun r hr => ?_)
 have h6 := h5 r hr
 exact RuleOK.wt (x := ⟨r, false⟩) h6
def BoxRul (d : Nat) (W : World) (s : Value) (wx : World) : Prop :=
 ∃ (gx : Nat) (x0 x1 : ByteArray) (x2 : List ByteArray) (x3 : Bool) (x4 : List (GEquation d)) (x5 : List (GContribution d)) (ax2 ax4 ax5 : Option Addr) (kx2 kx4 kx5 : Nat) (fq : List Nat), s = .pointer (some ⟨gx, 0, none⟩) ∧ VRow wx gx 138 [.string x0, .string x1, .slice ax2 x2.length kx2, .bool x3, .slice ax4 x4.length kx4, .slice ax5 x5.length kx5] ∧ Rd.rd fq wx [.string x0, .string x1, .slice ax2 x2.length kx2, .bool x3, .slice ax4 x4.length kx4, .slice ax5 x5.length kx5] (x0, x1, x2, x3, x4, x5) ∧ RuleFine (x0, x1, x2, x3, x4, x5) ∧ W.heap.size ≤ gx ∧ (∀ c ∈ fq, W.heap.size ≤ c ∧ c ≠ gx) ∧ Gr W wx
def BestIn (d : Nat) (P : GRule d → Prop) (W0 : World) (gb : Nat) (wr : World) : Prop :=
 ∃ (x0 x1 : ByteArray) (x2 : List ByteArray) (x3 : Bool) (x4 : List (GEquation d)) (x5 : List (GContribution d)) (ax2 ax4 ax5 : Option Addr) (kx2 kx4 kx5 : Nat) (fq : List Nat), VRow wr gb 138 [.string x0, .string x1, .slice ax2 x2.length kx2, .bool x3, .slice ax4 x4.length kx4, .slice ax5 x5.length kx5] ∧ Rd.rd fq wr [.string x0, .string x1, .slice ax2 x2.length kx2, .bool x3, .slice ax4 x4.length kx4, .slice ax5 x5.length kx5] (x0, x1, x2, x3, x4, x5) ∧ P (x0, x1, x2, x3, x4, x5) ∧ (∀ c ∈ fq, W0.heap.size ≤ c) ∧ Wr [gb] W0 wr

def RulV (d : Nat) (W : World) (p9 p10 p12 : Bool) (v97 v88 v98 g : Value) (wx : World) : Prop :=
 ∃ (x0 x1 : ByteArray) (x2 : List ByteArray) (x3 : Bool) (x4 : List (GEquation d)) (x5 : List (GContribution d)) (ax2 ax4 ax5 : Option Addr) (kx2 kx4 kx5 : Nat) (fq : List Nat) (o : Bool), v97 = .tuple #[.agg #[.string x0, .string x1, .slice ax2 x2.length kx2, .bool x3, .slice ax4 x4.length kx4, .slice ax5 x5.length kx5], .bool o] ∧ (p9 = true → v88 = v97) ∧ (p10 = true → v98 = .agg #[.string x0, .string x1, .slice ax2 x2.length kx2, .bool x3, .slice ax4 x4.length kx4, .slice ax5 x5.length kx5]) ∧ Rd.rd fq wx [.string x0, .string x1, .slice ax2 x2.length kx2, .bool x3, .slice ax4 x4.length kx4, .slice ax5 x5.length kx5] (x0, x1, x2, x3, x4, x5) ∧ RuleFine (x0, x1, x2, x3, x4, x5) ∧ (∀ c ∈ fq, W.heap.size ≤ c) ∧ (p12 = true → ∀ gn o', g = .pointer (some ⟨gn, o', none⟩) → gn ∉ fq)
def BoxVR (W : World) (g : Value) (wx : World) : Prop :=
 ∃ (gn : Nat), g = .pointer (some ⟨gn, 0, none⟩) ∧ W.heap.size ≤ gn ∧ VRow wx gn 138 [.string ⟨#[]⟩, .string ⟨#[]⟩, .slice none 0 0, .bool false, .slice none 0 0, .slice none 0 0]
def BoxR2 (d : Nat) (W : World) (s : Value) (wx : World) : Prop :=
 ∃ (gx : Nat) (x0 x1 : ByteArray) (x2 : List ByteArray) (x3 : Bool) (x4 : List (GEquation d)) (x5 : List (GContribution d)) (ax2 ax4 ax5 : Option Addr) (kx2 kx4 kx5 : Nat) (fq : List Nat), s = .pointer (some ⟨gx, 0, none⟩) ∧ VRow wx gx 138 [.string x0, .string x1, .slice ax2 x2.length kx2, .bool x3, .slice ax4 x4.length kx4, .slice ax5 x5.length kx5] ∧ Rd.rd fq wx [.string x0, .string x1, .slice ax2 x2.length kx2, .bool x3, .slice ax4 x4.length kx4, .slice ax5 x5.length kx5] (x0, x1, x2, x3, x4, x5) ∧ RuleFine (x0, x1, x2, x3, x4, x5) ∧ W.heap.size ≤ gx ∧ (∀ c ∈ fq, W.heap.size ≤ c)
def SR (d b : Nat) (W : World) (p8 p9 p10 p12 z : Bool) (v97 v88 v98 g : Value) (wx : World) : Prop :=
 CurR wx b ∧ Wr [b] W wx ∧ (z = false → p12 = true → BoxVR W g wx) ∧ (z = false → p8 = true → RulV d W p9 p10 p12 v97 v88 v98 g wx) ∧ (z = true → BoxR2 d W g wx)
def SRX (d b : Nat) (W : World) (D : Nat → Bool) (a : Act) (wx : World) : Prop := ((D 9 = true → D 8 = true) ∧ (D 10 = true → D 9 = true)) ∧ SR d b W (D 8) (D 9) (D 10) (D 12) (D 13) (a.tmps[97]?.getD undef) (a.tmps[88]?.getD undef) (a.tmps[98]?.getD undef) (a.tmps[17]?.getD undef) wx
def VRX (b n bn offn kl : Nat) (cg : Array Value) (_ : Bool) (d : Nat) (v : Value) (_ : World) : Prop :=
 match d with
 | 89 => v = .agg cg
 | 90 | 92 => v = .slice (some ⟨bn, offn, none⟩) n kl
 | 91 => v = .pointer (some ⟨b, 0, none⟩)
 | 93 => v = .int .i64 (n : Int)
 | 94 => ∃ k : Nat, v = .int .i64 (k : Int) ∧ k < n
 | 95 => ∃ k : Nat, v = .pointer (some ⟨bn, offn + k, none⟩) ∧ k < n
 | 96 => ∃ s, v = .string s
 | 97 | 88 => ∃ c o, v = .tuple #[.agg c, .bool o]
 | 99 => ∃ o, v = .bool o
 | _ => True
theorem SR.wr {d b : Nat} {W wx wy : World} {p8 p9 p10 p12 z : Bool} {v97 v88 v98 g : Value} (h : SR d b W p8 p9 p10 p12 z v97 v88 v98 g wx) (hb : b < W.heap.size) (hc : CurR wy b) (hw : Wr [b] wx wy) (hz : z = false) : SR d b W p8 p9 p10 p12 z v97 v88 v98 g wy := by
 obtain ⟨h1, h2, h3, h4, h5⟩ := h
 refine ⟨hc, h2.trans hw, fun hz hq => ?_, fun hz hp => ?_, fun e => ?_⟩
 ·obtain ⟨gn, e1, e2, e3⟩ := h3 hz hq
  exact ⟨gn, e1, e2, e3.wr hw (by simp; omega)⟩
 ·obtain ⟨x0, x1, x2, x3, x4, x5, ax2, ax4, ax5, kx2, kx4, kx5, fq, o, e1, e2, e3, e4, e5, e6, e7⟩ := h4 hz hp
  exact ⟨x0, x1, x2, x3, x4, x5, ax2, ax4, ax5, kx2, kx4, kx5, fq, o, e1, e2, e3, Rd.wr e4 hw (fun c hc hm => by have := e6 c hc; have := List.mem_singleton.1 hm; omega), e5, e6, e7⟩
 ·rw [hz] at e; cases e
theorem BestIn.gr {P : GRule d → Prop} {W0 wr w' : World} {gb : Nat} (h : BestIn d P W0 gb wr) (hg : Gr wr w') : BestIn d P W0 gb w' := by
 obtain ⟨x0, x1, x2, x3, x4, x5, ax2, ax4, ax5, kx2, kx4, kx5, fq, h1, h2, h3, h4, h5⟩ := h
 exact ⟨x0, x1, x2, x3, x4, x5, ax2, ax4, ax5, kx2, kx4, kx5, fq, h1.gr hg, Rd.gr h2 hg, h3, h4, h5.gr hg⟩

set_option maxRecDepth 100000 in
set_option maxHeartbeats 16000000 in
theorem l13Rule_any (b : Nat) {fg : List Nat} {cg : Array Value} (g : GGrammar d) (sym : ByteArray) (room : Int) (w : World) (h : CurR w b) (hg : Rd.rd fg w cg.toList g) (hbg : b ∉ fg) (hok : GramOK g) :
  Calls Try.prog 108 #[.pointer (some ⟨b, 0, none⟩), .agg cg, .string sym, .int .i64 room] w (RuleGot d b g sym room w) := by
 have HC := Lib.hid h
 have HWT := Lib.hid hok.wt
 have HOK := Lib.hid hok
 have hgl : 0 < g.1.length ∧ g.1.length ≤ 3 := ⟨hok.1, hok.2.1⟩
 have hbl := h.lt
 clear h hok
 have HG := Lib.hid hg
 obtain ⟨g0, g1⟩ := g
 obtain ⟨vg0, fg0, vg1, fg1, rfl, hfpg, hg0, hg1⟩ := rdGrammar_inv g0 g1 hg
 have FPg := Lib.hid hfpg
 clear hfpg
 obtain ⟨ag0, kg0, rfl, og01, og02, og03⟩ := hg0.open
 obtain ⟨ag1, kg1, rfl, og11, og12, og13⟩ := hg1.open
 clear hg
 have HGL := Lib.hid (Rd.lt HG.out)
 go_enter Try.func108, Try.ntmps108
 go_upto_region 1 with fail
 generalize hB : ((w.alloc (.cells #[.slice ag0 g0.length kg0, .slice ag1 g1.length kg1] 114)).alloc (.cells #[.string ⟨#[]⟩, .string ⟨#[]⟩, .slice none 0 0, .bool false, .slice none 0 0, .slice none 0 0] 138)) = B
 have gB : Gr w B := by rw [← hB]; exact gd
 have bB0 : ∀ w' : World, Gr B w' → w'.cell? ⟨w.heap.size, 0, none⟩ = some (.slice ag0 g0.length kg0) := fun w' hg => hg.keep (by rw [← hB]; repeat (first | ((with_reducible refine box_cell ?_ ?_) <;> first | omega | (simp; done) | (simp; omega) | rfl) | (with_reducible refine Gr.keep (Gr.alloc (Gr.refl _) _) ?_) | (with_reducible refine Gr.keep (Gr.ext (Gr.refl _) _) ?_) | (with_reducible refine Gr.keep (Gr.drew (Gr.refl _)) ?_)))
 have bB1 : ∀ w' : World, Gr B w' → w'.cell? ⟨w.heap.size, 1, none⟩ = some (.slice ag1 g1.length kg1) := fun w' hg => hg.keep (by rw [← hB]; repeat (first | ((with_reducible refine box_cell ?_ ?_) <;> first | omega | (simp; done) | (simp; omega) | rfl) | (with_reducible refine Gr.keep (Gr.alloc (Gr.refl _) _) ?_) | (with_reducible refine Gr.keep (Gr.ext (Gr.refl _) _) ?_) | (with_reducible refine Gr.keep (Gr.drew (Gr.refl _)) ?_)))
 have sB : B.heap.size = w.heap.size + 2 := by rw [← hB]; first | (simp; done) | (simp; omega)
 have EB := Lib.hid hB
 clear hB
 have VS0 := Lib.hid (show VRow B (w.heap.size + 1) 138 [.string ⟨#[]⟩, .string ⟨#[]⟩, .slice none 0 0, .bool false, .slice none 0 0, .slice none 0 0] by rw [← EB.out]; exact VRow.new (by simp))
 have q0 := bB0 _ (Gr.refl _)
 have q1 := bB1 _ (Gr.refl _)
 have zq0 := blk q0
 go_wp2_with fail
 refine (rulesOf_any (g0, g1) sym _ (Rd.gr HG.out gB) HWT.out).mono ?_
 rintro e w' ⟨vl, fl, rfl, hsl, hfl, x1, rfl⟩
 obtain ⟨NL, hNL⟩ : ∃ NL, NL = rulesN (g0, g1).2 sym := ⟨_, rfl⟩
 rw [← hNL] at hsl
 have hNLl : NL.length ≤ 8 := by
  have h1 := rulesN_len g1 sym
  have h2 : g1.length ≤ 8 := HOK.out.2.2.2.1
  rw [hNL]
  exact Nat.le_trans h1 h2
 obtain ⟨al, kl, rfl, -, -, -⟩ := hsl.open
 have HSL := Lib.hid hsl
 have HFL := Lib.hid hfl
 have hgl3 : 0 < g0.length ∧ g0.length ≤ 3 := hgl
 clear hsl hfl hNL
 have q0 := bB0 _ (gd : Gr B (B.ext x1))
 have q1 := bB1 _ (gd : Gr B (B.ext x1))
 have zq0 := blk q0
 go_wp2_with fail
 refine (l12Heights_any (g0, g1) _ (Rd.gr HG.out (gB.trans gd)) hgl3.1 (by show g0.length ≤ 1000; omega)).mono ?_
 rintro e w' ⟨vh, fh, rfl, hsh, hfh, x2, rfl⟩
 obtain ⟨ah, kh, rfl, -, -, -⟩ := hsh.open
 have VB := (show VRow (((B.ext x1).alloc (.cells #[.string ⟨#[]⟩, .string ⟨#[]⟩, .slice none 0 0, .bool false, .slice none 0 0, .slice none 0 0] 138)).ext x2) (w.heap.size + 2 + x1.objs.size) 138 [.string ⟨#[]⟩, .string ⟨#[]⟩, .slice none 0 0, .bool false, .slice none 0 0, .slice none 0 0] from (VRow.new (A := B.ext x1) (by simp; omega)).gr gd)
 have gW := (show Gr B (((B.ext x1).alloc (.cells #[.string ⟨#[]⟩, .string ⟨#[]⟩, .slice none 0 0, .bool false, .slice none 0 0, .slice none 0 0] 138)).ext x2) from gd)
 have sl0 := HSL.out.gr (show Gr (B.ext x1) (((B.ext x1).alloc (.cells #[.string ⟨#[]⟩, .string ⟨#[]⟩, .slice none 0 0, .bool false, .slice none 0 0, .slice none 0 0] 138)).ext x2) from gd)
 have hflt : ∀ c ∈ fl, w.heap.size + 2 ≤ c ∧ c < w.heap.size + 2 + x1.objs.size := fun c hc => by
  have h1 := HSL.out.lt c hc
  have h2 := HFL.out.2 c hc
  simp at h1
  omega
 have hfht : ∀ c ∈ fh, w.heap.size + 2 + x1.objs.size < c := fun c hc => by have := hfh c hc; simp at this; omega
 have hxs := (show w.heap.size + 2 + x1.objs.size < (((B.ext x1).alloc (.cells #[.string ⟨#[]⟩, .string ⟨#[]⟩, .slice none 0 0, .bool false, .slice none 0 0, .slice none 0 0] 138)).ext x2).heap.size by simp; omega)
 obtain ⟨HT, hHT⟩ : ∃ HT, HT = hts (g0, g1) (g0, g1).1.length := ⟨_, rfl⟩
 rw [← hHT] at hsh
 have hHl : HT.length = g0.length := by rw [hHT]; exact (hts_ok (g0, g1) _ (Nat.le_refl _)).1
 have hhh : ∀ n, hh (g0, g1) n = HT.getD (atS g0 n).toNat 0 := fun n => by rw [hHT]; rfl
 rw [← hHT]
 generalize hgb : w.heap.size + 2 + x1.objs.size = gb at *
 have hgb2 : w.heap.size + 2 ≤ gb := by omega
 generalize hW0 : ((B.ext x1).alloc (.cells #[.string ⟨#[]⟩, .string ⟨#[]⟩, .slice none 0 0, .bool false, .slice none 0 0, .slice none 0 0] 138)).ext x2 = W0 at *
 clear hW0 hgb HSL HFL hHT q0 q1 zq0 hfh
 have HSH := Lib.hid hsh
 have HSL := Lib.hid sl0
 have HVB := Lib.hid VB
 have HGB := Lib.hid gW
 have HHH := Lib.hid hhh
 have HFL := Lib.hid hflt
 have HFH := Lib.hid hfht
 clear hsh sl0 VB gW hhh hflt hfht
 rw [hHl]
 go_wp2_with fail
 go_loopw [12] (fun s12 wr => ∃ i : Nat, i ≤ NL.length ∧ BestIn d (LowR (g0, g1) sym) W0 gb wr ∧ s12 = .int .i64 i) (fun s12 _ => NL.length - (intOf s12).toNat)
 case atStart => exact ⟨0, by omega, ⟨⟨#[]⟩, ⟨#[]⟩, [], false, [], [], none, none, none, 0, 0, 0, _, HVB.out, rdRule_mk (d := d) ⟨#[]⟩ ⟨#[]⟩ [] false [] [] (by decide) (by decide) (SlR.nil _) (SlR.nil _) (SlR.nil _), ⟨⟨Nat.zero_le _, Nat.zero_le _, by simp⟩, by simp⟩, by simp, Wr.refl _ _⟩, rfl⟩
 case round =>
  obtain ⟨i, hi, hbest, rfl⟩ := hrel
  rename World => W1
  have hw1 : Wr [gb] W0 W1 := by obtain ⟨_, _, _, _, _, _, _, _, _, _, _, _, _, _, _, _, _, h⟩ := hbest; exact h
  have HBE := Lib.hid hbest
  have HW1 := Lib.hid hw1
  have hs1 := hw1.size
  have HB0 := Lib.hid (fun (k : Nat) (v : Value) (h : B.cell? ⟨w.heap.size, k, none⟩ = some v) => hw1.keepC (HGB.out.keep h) (by simp; omega))
  have HRG1 := Lib.hid (Rd.wr (Rd.gr HG.out (gB.trans HGB.out)) hw1 (fun c hc hm => by have h1 := HGL.out c hc; have h2 := List.mem_singleton.1 hm; omega))
  have HSL1 := Lib.hid (HSL.out.wr hw1 (fun c hc hm => by have h1 := HFL.out c hc; have h2 := List.mem_singleton.1 hm; omega))
  have HSH1 := Lib.hid (HSH.out.wr hw1 (fun c hc hm => by have h1 := HFH.out c hc; have h2 := List.mem_singleton.1 hm; omega))
  have y0 := HB0.out 0 _ (bB0 _ (Gr.refl _))
  have y1 := HB0.out 1 _ (bB1 _ (Gr.refl _))
  have zy0 := blk y0
  clear hw1 hbest
  by_cases hlt : i < NL.length
  ·have i0 : (0 : Int) ≤ (i : Int) := by omega
   have i1 : (i : Int) < (NL.length : Int) := by omega
   have iwi : IntKind.i64.wrap ((i : Int) + 1) = (i : Int) + 1 := IntWalk.i64_in _ (by omega)
   have hs3 := HSL1.out
   obtain ⟨a', c', he, o1, o2, o3⟩ := hs3.open
   injection he with e1 e2 e3
   clear e2
   subst e1 e3
   obtain ⟨bn, offn, rfl, hbn⟩ := o3 i hlt
   have cn := (HSL1.out.str_at hlt).1
   have zn := blk cn
   obtain ⟨nm, hnm⟩ : ∃ nm, nm = NL[i] := ⟨_, rfl⟩
   rw [← hnm] at cn
   clear hs3 hnm
   go_upto_region 7 with fail
   have kk0 := fun (w' : World) (h : Gr W1 w') => h.keep y0
   have kk1 := fun (w' : World) (h : Gr W1 w') => h.keep y1
   have kk2 := fun (w' : World) (h : Gr W1 w') => h.keep cn
   go_cut [13] (fun sp wx => BoxRul d W1 sp wx)
   case first =>
    go_region_held3 (fun w' => Gr W1 w') (first | assumption | exact Gr.drew (Gr.refl _) | (repeat (first | assumption | exact Gr.refl _ | apply Gr.ext | apply Gr.alloc | apply Gr.drew)))
     (first
      | (go_at_call 118; refine (specFindRule_new (g0, g1) _ _ (Rd.gr HRG1.out (by first | assumption | exact gd)) HWT.out).mono ?_; rintro e w' ⟨es, fq, rfl, hrs, hfr, x3, rfl⟩; have hok := look_fine HOK.out nm; obtain ⟨yy, hyy⟩ : ∃ y, y = (lookR (g0, g1).2 nm).getD zeroR := ⟨_, rfl⟩; rw [← hyy] at hrs hok; clear hyy; obtain ⟨r0, r1, r2, r3, r4, r5⟩ := yy; obtain ⟨vr2, fr2, vr4, fr4, vr5, fr5, rfl, hfs, hr0, hr1, hr2, hr4, hr5⟩ := rdRule_inv r0 r1 r2 r3 r4 r5 hrs; obtain ⟨ar2, kr2, rfl, -, -, -⟩ := hr2.open; obtain ⟨ar4, kr4, rfl, -, -, -⟩ := hr4.open; obtain ⟨ar5, kr5, rfl, -, -, -⟩ := hr5.open))
    all_goals
     go_wp2_with fail
     go_meet
     refine ⟨_, r0, r1, r2, r3, r4, r5, ar2, ar4, ar5, kr2, kr4, kr5, fq, rfl, ?_, ?_, hok, by (try simp) <;> omega, fun c hc => ?_, gd⟩
     ·repeat (first | ((with_reducible refine VRow.new ?_) <;> first | omega | (simp; done) | (simp; omega) | rfl) | (with_reducible refine VRow.gr ?_ (Gr.alloc (Gr.refl _) _)) | (with_reducible refine VRow.gr ?_ (Gr.ext (Gr.refl _) _)) | (with_reducible refine VRow.gr ?_ (Gr.drew (Gr.refl _))))
     ·first
       | (refine Rd.gr hrs ?_; (repeat (first | exact Gr.refl _ | apply Gr.ext | apply Gr.alloc | apply Gr.drew)); done)
       | (exact Rd.moved hrs hfr (Gr.refl _) (by simp))
     ·have h1 := hfr.2 c hc
      have h2 := Rd.lt hrs c hc
      simp at h1 h2
      constructor <;> (try simp) <;> omega
   case rest =>
    obtain ⟨gx, x0, x1, x2, x3, x4, x5, ax2, ax4, ax5, kx2, kx4, kx5, fq, rfl, hvx, hrx, hfx, hgx, hfq, g2⟩ := hcut
    rename World => W2
    have hs2 := g2.size
    have hxl : x2.length ≤ 3 := hfx.2.1
    have HVX := Lib.hid hvx
    have HRX := Lib.hid hrx
    have HFX := Lib.hid hfx
    have HFQ := Lib.hid hfq
    have G12 := Lib.hid g2
    have hgxl := hvx.lt
    obtain ⟨vx2, fx2, vx4, fx4, vx5, fx5, ecs, -, -, -, hsx2, -, -⟩ := rdRule_inv (cs := #[.string x0, .string x1, .slice ax2 x2.length kx2, .bool x3, .slice ax4 x4.length kx4, .slice ax5 x5.length kx5]) x0 x1 x2 x3 x4 x5 hrx
    have ecs2 := congrArg Array.toList ecs
    simp at ecs2
    obtain ⟨rfl, rfl, rfl⟩ := ecs2
    have HX2 := Lib.hid hsx2
    clear ecs hsx2 hvx hrx hfx hfq kk0 kk1 kk2
    obtain ⟨at2, hat2⟩ : ∃ a, a = atS g0 sym := ⟨_, rfl⟩
    have ht2 := atS_lt g0 sym
    rw [← hat2] at ht2
    obtain ⟨i2, hi2⟩ : ∃ i2 : Nat, i2 = at2.toNat := ⟨_, rfl⟩
    have hi2l : i2 < HT.length := by omega
    have hi2m : max (0 : Int) at2 = (i2 : Int) := by omega
    have HSY := Lib.hid (show hh (g0, g1) sym = HT[i2] by rw [HHH.out, ← hat2, ← hi2]; simp [List.getD_eq_getElem?_getD, List.getElem?_eq_getElem hi2l])
    have hs4 := HSH1.out
    obtain ⟨a', c', he, p1, p2, p3⟩ := hs4.open
    injection he with e1 e2 e3
    clear e2
    subst e1 e3
    obtain ⟨bH, oH, rfl, hbH⟩ := p3 i2 hi2l
    clear hs4
    have HSH2 := Lib.hid (HSH1.out.gr g2)
    have HAT2 := Lib.hid hat2
    clear hat2 hi2 y0 y1 zy0 cn zn
    have y0 := g2.keep (HB0.out 0 _ (bB0 _ (Gr.refl _)))
    have y1 := g2.keep (HB0.out 1 _ (bB1 _ (Gr.refl _)))
    have Y0 := Lib.hid y0
    have Y1 := Lib.hid y1
    have HRG2 := Lib.hid (Rd.gr HRG1.out g2)
    clear y0 y1 g2
    go_wp2_with fail
    go_loopw [16, 15] (fun s16 s15 wr => ∃ (m : Nat) (low : Bool), m ≤ x2.length ∧ Gr W2 wr ∧ Hid (low = true → ∀ c ∈ x2.take m, hh (g0, g1) c < hh (g0, g1) sym) ∧ s16 = .int .i64 m ∧ s15 = .bool low) (fun s16 _ _ => x2.length - (intOf s16).toNat)
    case atStart => exact ⟨0, true, by omega, Gr.refl _, Lib.hid (by simp), rfl, rfl⟩
    case round =>
     obtain ⟨m, low, hm, g23, HLOW, rfl, rfl⟩ := hrel
     rename World => W3
     have G23 := Lib.hid g23
     have y0 := g23.keep Y0.out
     have y1 := g23.keep Y1.out
     have zy0 := blk y0
     have z2 := (HVX.out.gr g23).cell (k := 2) (by simp)
     have zz2 := blk z2
     have hs5 := g23.size
     clear g23
     by_cases hlm : m < x2.length
     ·have m0 : (0 : Int) ≤ (m : Int) := by omega
      have m1 : (m : Int) < (x2.length : Int) := by omega
      have iwm : IntKind.i64.wrap ((m : Int) + 1) = (m : Int) + 1 := IntWalk.i64_in _ (by omega)
      have hs6 := HX2.out
      obtain ⟨a', c', he, p1, p2, p4⟩ := hs6.open
      injection he with e1 e2 e3
      clear e2
      subst e1 e3
      obtain ⟨bL, oL, rfl, hbL⟩ := p4 m hlm
      have cL := G23.out.keep (HX2.out.str_at hlm).1
      have zL := blk cL
      obtain ⟨at1, hat1⟩ : ∃ a, a = atS g0 x2[m] := ⟨_, rfl⟩
      have ht1 := atS_lt g0 x2[m]
      rw [← hat1] at ht1
      obtain ⟨i1, hi1⟩ : ∃ i1 : Nat, i1 = at1.toNat := ⟨_, rfl⟩
      have hi1l : i1 < HT.length := by omega
      have hi1m : max (0 : Int) at1 = (i1 : Int) := by omega
      have HSX := Lib.hid (show hh (g0, g1) x2[m] = HT[i1] by rw [HHH.out, ← hat1, ← hi1]; simp [List.getD_eq_getElem?_getD, List.getElem?_eq_getElem hi1l])
      have HC1 := Lib.hid (show ∀ x : Ext, Calls Try.prog 119 #[.agg #[.slice ag0 g0.length kg0, .slice ag1 g1.length kg1], .string x2[m]] (W3.ext x) fun e w' => e = .returned (.int .i64 at1) ∧ Gr (W3.ext x) w' from fun x => by
       rw [hat1]
       exact l12At_any (g0, g1) x2[m] _ (Rd.gr HRG2.out (G23.out.trans gd)))
      have HC2 := Lib.hid (show ∀ x : Ext, Calls Try.prog 119 #[.agg #[.slice ag0 g0.length kg0, .slice ag1 g1.length kg1], .string sym] (W3.ext x) fun e w' => e = .returned (.int .i64 at2) ∧ Gr (W3.ext x) w' from fun x => by
       rw [HAT2.out]
       exact l12At_any (g0, g1) sym _ (Rd.gr HRG2.out (G23.out.trans gd)))
      have HM1 := Lib.hid (show ∀ x : Ext, Calls Try.prog 50 #[.int .i64 0, .int .i64 at1] (W3.ext x) fun e w' => e = .returned (.int .i64 (i1 : Int)) ∧ Gr (W3.ext x) w' from fun x => by
       refine (l1Max_any 0 at1 _).mono ?_
       rintro e w' ⟨rfl, rfl⟩
       exact ⟨by rw [hi1m], Gr.refl _⟩)
      have HM2 := Lib.hid (show ∀ x : Ext, Calls Try.prog 50 #[.int .i64 0, .int .i64 at2] (W3.ext x) fun e w' => e = .returned (.int .i64 (i2 : Int)) ∧ Gr (W3.ext x) w' from fun x => by
       refine (l1Max_any 0 at2 _).mono ?_
       rintro e w' ⟨rfl, rfl⟩
       exact ⟨by rw [hi2m], Gr.refl _⟩)
      have cH1 := G23.out.keep (HSH2.out.int_at hi1l).1
      have cH2 := G23.out.keep (HSH2.out.int_at hi2l).1
      have zH1 := blk cH1
      have a10 : (0 : Int) ≤ (i1 : Int) := by omega
      have a20 : (0 : Int) ≤ (i2 : Int) := by omega
      have a11 : (i1 : Int) < (g0.length : Int) := by omega
      have a21 : (i2 : Int) < (g0.length : Int) := by omega
      obtain ⟨nx, hnx⟩ : ∃ nx, nx = x2[m] := ⟨_, rfl⟩
      have HNX := Lib.hid hnx
      rw [← hnx] at cL HC1 HSX
      clear hnx hat1 hi1 ht1 hi1m
      cases low with
      | false =>
       go_wp2_with fail
       refine wp_region_grown (by kernel_rfl) (by kernel_rfl) ?_
       repeat (go_big_quiet_step (fail))
       refine wpQuiet_nil ?_
       intro _ hw'
       obtain ⟨nx, hw''⟩ := hw'
       subst hw''
       go_wp2_with fail
       exact ⟨⟨m + 1, false, by omega, G23.out.trans gd, Lib.hid (fun h => by cases h), by go_num, rfl⟩, by simp [intOf]; omega⟩
      | true =>
       go_wp2_with fail
       refine wp_region_grown (by kernel_rfl) (by kernel_rfl) ?_
       go_big_quiet_step (first | (go_at_call 119; with_reducible exact grown_call (HC1.out _)) | (go_at_call 119; with_reducible exact grown_call (HC2.out _)) | (go_at_call 50; with_reducible exact grown_call (HM1.out _)) | (go_at_call 50; with_reducible exact grown_call (HM2.out _)))
       go_big_quiet_step (first | (go_at_call 119; with_reducible exact grown_call (HC1.out _)) | (go_at_call 119; with_reducible exact grown_call (HC2.out _)) | (go_at_call 50; with_reducible exact grown_call (HM1.out _)) | (go_at_call 50; with_reducible exact grown_call (HM2.out _)))
       go_big_quiet_step (first | (go_at_call 119; with_reducible exact grown_call (HC1.out _)) | (go_at_call 119; with_reducible exact grown_call (HC2.out _)) | (go_at_call 50; with_reducible exact grown_call (HM1.out _)) | (go_at_call 50; with_reducible exact grown_call (HM2.out _)))
       go_big_quiet_step (first | (go_at_call 119; with_reducible exact grown_call (HC1.out _)) | (go_at_call 119; with_reducible exact grown_call (HC2.out _)) | (go_at_call 50; with_reducible exact grown_call (HM1.out _)) | (go_at_call 50; with_reducible exact grown_call (HM2.out _)))
       go_big_quiet_step (first | (go_at_call 119; with_reducible exact grown_call (HC1.out _)) | (go_at_call 119; with_reducible exact grown_call (HC2.out _)) | (go_at_call 50; with_reducible exact grown_call (HM1.out _)) | (go_at_call 50; with_reducible exact grown_call (HM2.out _)))
       go_big_quiet_step (first | (go_at_call 119; with_reducible exact grown_call (HC1.out _)) | (go_at_call 119; with_reducible exact grown_call (HC2.out _)) | (go_at_call 50; with_reducible exact grown_call (HM1.out _)) | (go_at_call 50; with_reducible exact grown_call (HM2.out _)))
       go_big_quiet_step (first | (go_at_call 119; with_reducible exact grown_call (HC1.out _)) | (go_at_call 119; with_reducible exact grown_call (HC2.out _)) | (go_at_call 50; with_reducible exact grown_call (HM1.out _)) | (go_at_call 50; with_reducible exact grown_call (HM2.out _)))
       go_big_quiet_step (first | (go_at_call 119; with_reducible exact grown_call (HC1.out _)) | (go_at_call 119; with_reducible exact grown_call (HC2.out _)) | (go_at_call 50; with_reducible exact grown_call (HM1.out _)) | (go_at_call 50; with_reducible exact grown_call (HM2.out _)))
       go_big_quiet_step (first | (go_at_call 119; with_reducible exact grown_call (HC1.out _)) | (go_at_call 119; with_reducible exact grown_call (HC2.out _)) | (go_at_call 50; with_reducible exact grown_call (HM1.out _)) | (go_at_call 50; with_reducible exact grown_call (HM2.out _)))
       go_big_quiet_step (first | (go_at_call 119; with_reducible exact grown_call (HC1.out _)) | (go_at_call 119; with_reducible exact grown_call (HC2.out _)) | (go_at_call 50; with_reducible exact grown_call (HM1.out _)) | (go_at_call 50; with_reducible exact grown_call (HM2.out _)))
       go_big_quiet_step (first | (go_at_call 119; with_reducible exact grown_call (HC1.out _)) | (go_at_call 119; with_reducible exact grown_call (HC2.out _)) | (go_at_call 50; with_reducible exact grown_call (HM1.out _)) | (go_at_call 50; with_reducible exact grown_call (HM2.out _)))
       go_big_quiet_step (first | (go_at_call 119; with_reducible exact grown_call (HC1.out _)) | (go_at_call 119; with_reducible exact grown_call (HC2.out _)) | (go_at_call 50; with_reducible exact grown_call (HM1.out _)) | (go_at_call 50; with_reducible exact grown_call (HM2.out _)))
       go_big_quiet_step (first | (go_at_call 119; with_reducible exact grown_call (HC1.out _)) | (go_at_call 119; with_reducible exact grown_call (HC2.out _)) | (go_at_call 50; with_reducible exact grown_call (HM1.out _)) | (go_at_call 50; with_reducible exact grown_call (HM2.out _)))
       go_big_quiet_step (first | (go_at_call 119; with_reducible exact grown_call (HC1.out _)) | (go_at_call 119; with_reducible exact grown_call (HC2.out _)) | (go_at_call 50; with_reducible exact grown_call (HM1.out _)) | (go_at_call 50; with_reducible exact grown_call (HM2.out _)))
       go_big_quiet_step (first | (go_at_call 119; with_reducible exact grown_call (HC1.out _)) | (go_at_call 119; with_reducible exact grown_call (HC2.out _)) | (go_at_call 50; with_reducible exact grown_call (HM1.out _)) | (go_at_call 50; with_reducible exact grown_call (HM2.out _)))
       go_big_quiet_step (first | (go_at_call 119; with_reducible exact grown_call (HC1.out _)) | (go_at_call 119; with_reducible exact grown_call (HC2.out _)) | (go_at_call 50; with_reducible exact grown_call (HM1.out _)) | (go_at_call 50; with_reducible exact grown_call (HM2.out _)))
       go_big_quiet_step (first | (go_at_call 119; with_reducible exact grown_call (HC1.out _)) | (go_at_call 119; with_reducible exact grown_call (HC2.out _)) | (go_at_call 50; with_reducible exact grown_call (HM1.out _)) | (go_at_call 50; with_reducible exact grown_call (HM2.out _)))
       go_big_quiet_step (first | (go_at_call 119; with_reducible exact grown_call (HC1.out _)) | (go_at_call 119; with_reducible exact grown_call (HC2.out _)) | (go_at_call 50; with_reducible exact grown_call (HM1.out _)) | (go_at_call 50; with_reducible exact grown_call (HM2.out _)))
       go_big_quiet_step (first | (go_at_call 119; with_reducible exact grown_call (HC1.out _)) | (go_at_call 119; with_reducible exact grown_call (HC2.out _)) | (go_at_call 50; with_reducible exact grown_call (HM1.out _)) | (go_at_call 50; with_reducible exact grown_call (HM2.out _)))
       go_big_quiet_step (first | (go_at_call 119; with_reducible exact grown_call (HC1.out _)) | (go_at_call 119; with_reducible exact grown_call (HC2.out _)) | (go_at_call 50; with_reducible exact grown_call (HM1.out _)) | (go_at_call 50; with_reducible exact grown_call (HM2.out _)))
       go_big_quiet_step (first | (go_at_call 119; with_reducible exact grown_call (HC1.out _)) | (go_at_call 119; with_reducible exact grown_call (HC2.out _)) | (go_at_call 50; with_reducible exact grown_call (HM1.out _)) | (go_at_call 50; with_reducible exact grown_call (HM2.out _)))
       go_big_quiet_step (first | (go_at_call 119; with_reducible exact grown_call (HC1.out _)) | (go_at_call 119; with_reducible exact grown_call (HC2.out _)) | (go_at_call 50; with_reducible exact grown_call (HM1.out _)) | (go_at_call 50; with_reducible exact grown_call (HM2.out _)))
       go_big_quiet_step (first | (go_at_call 119; with_reducible exact grown_call (HC1.out _)) | (go_at_call 119; with_reducible exact grown_call (HC2.out _)) | (go_at_call 50; with_reducible exact grown_call (HM1.out _)) | (go_at_call 50; with_reducible exact grown_call (HM2.out _)))
       refine wpQuiet_nil ?_
       intro _ hw'
       obtain ⟨nx2, hw''⟩ := hw'
       subst hw''
       clear HC1 HC2 HM1 HM2 cH1 cH2 zH1 cL zL z2 zz2 y0 y1 zy0
       obtain ⟨lw, hlw⟩ : ∃ lw : Bool, lw = decide (HT[i1] < HT[i2]) := ⟨_, rfl⟩
       rw [← hlw]
       have HLW := Lib.hid hlw
       clear hlw
       go_wp2_with fail
       refine ⟨⟨m + 1, lw, by omega, G23.out.trans gd, Lib.hid (fun hlt c hc => ?_), by go_num, rfl⟩, by simp [intOf]; omega⟩
       rw [List.take_succ_eq_append_getElem hlm] at hc
       rcases List.mem_append.1 hc with h | h
       ·first | exact HLOW.out rfl c h | exact HLOW.out trivial c h | exact HLOW.out c h
       ·rw [List.mem_singleton.1 h, ← HNX.out, HSX.out, HSY.out]
        have h9 := HLW.out
        rw [hlt] at h9
        exact of_decide_eq_true h9.symm
     ·have m1 : ¬ (m : Int) < (x2.length : Int) := by omega
      have hmx : m = x2.length := by omega
      obtain ⟨b0, b1, b2, b3, b4, b5, ab2, ab4, ab5, kb2, kb4, kb5, fb, hvb, hrb, hpb, hfb, hwb⟩ := HBE.out
      have hg13 := G12.out.trans G23.out
      have HVB3 := Lib.hid (hvb.gr hg13)
      have e0 := HVB3.out.cell (k := 0) (by simp)
      have ze := blk e0
      clear hvb hrb hpb hfb hwb
      have hs13 := hg13.size
      have HBE3 := Lib.hid (BestIn.gr HBE.out hg13)
      cases low with
      | false =>
       go_wp2_with fail
       exact ⟨⟨i + 1, by omega, HBE3.out, by go_num⟩, by simp [intOf]; omega⟩
      | true =>
       have HVX3 := Lib.hid (HVX.out.gr G23.out)
       have HRX3 := Lib.hid (Rd.gr HRX.out G23.out)
       have c0 := HVX3.out.cell (k := 0) (by simp)
       have c1 := HVX3.out.cell (k := 1) (by simp)
       have c2 := HVX3.out.cell (k := 2) (by simp)
       have c3 := HVX3.out.cell (k := 3) (by simp)
       have c4 := HVX3.out.cell (k := 4) (by simp)
       have c5 := HVX3.out.cell (k := 5) (by simp)
       have zc0 := blk c0
       have e0 := HVB3.out.cell (k := 0) (by simp)
       have f0 := HVB3.out.frozen 0
       have e1 := HVB3.out.cell (k := 1) (by simp)
       have f1 := HVB3.out.frozen 1
       have e2 := HVB3.out.cell (k := 2) (by simp)
       have f2 := HVB3.out.frozen 2
       have e3 := HVB3.out.cell (k := 3) (by simp)
       have f3 := HVB3.out.frozen 3
       have e4 := HVB3.out.cell (k := 4) (by simp)
       have f4 := HVB3.out.frozen 4
       have e5 := HVB3.out.cell (k := 5) (by simp)
       have f5 := HVB3.out.frozen 5
       have hgbl := HVB3.out.lt
       have hgb1 : gb < W1.heap.size := by omega
       have HLW := Lib.hid (show LowR (g0, g1) sym (x0, x1, x2, x3, x4, x5) from ⟨HFX.out, fun c hc => by
        have hc2 : c ∈ x2.take m := by rw [hmx, List.take_length]; exact hc
        first | exact HLOW.out rfl c hc2 | exact HLOW.out trivial c hc2 | exact HLOW.out c hc2⟩)
       clear HLOW
       go_wp2_with fail
       all_goals refine ⟨⟨i + 1, by omega, ?_, by go_num⟩, by simp [intOf]; omega⟩
       all_goals first
        | with_reducible exact HBE3.out
        | skip
       generalize hU : ((((((W3.setCell ⟨gb, 0, none⟩ (.string x0)).setCell ⟨gb, 1, none⟩ (.string x1)).setCell ⟨gb, 2, none⟩ (.slice ax2 x2.length kx2)).setCell ⟨gb, 3, none⟩ (.bool x3)).setCell ⟨gb, 4, none⟩ (.slice ax4 x4.length kx4)).setCell ⟨gb, 5, none⟩ (.slice ax5 x5.length kx5)) = U
       have vU : VRow U gb 138 [.string x0, .string x1, .slice ax2 x2.length kx2, .bool x3, .slice ax4 x4.length kx4, .slice ax5 x5.length kx5] := by rw [← hU]; exact VRow.put6 HVB3.out _ _ _ _ _ _
       have wU : Wr [gb] W3 U := by rw [← hU]; exact Wr.put6 _ _ _ _ _ _ _ _
       clear hU
       exact ⟨x0, x1, x2, x3, x4, x5, ax2, ax4, ax5, kx2, kx4, kx5, fq, vU, Rd.wr HRX3.out wU (fun c hc hm => by have h1 := (HFQ.out c hc).1; have h2 := List.mem_singleton.1 hm; omega), HLW.out, fun c hc => by have := (HFQ.out c hc).1; omega, (HW1.out.gr (G12.out.trans G23.out)).trans wU⟩
  ·have i1 : ¬ (i : Int) < (NL.length : Int) := by omega
   obtain ⟨b0, b1, b2, b3, b4, b5, ab2, ab4, ab5, kb2, kb4, kb5, fb, hvb, hrb, hpb, hfb, hwb⟩ := HBE.out
   have HVB1 := Lib.hid hvb
   have HRB1 := Lib.hid hrb
   have HPB := Lib.hid hpb
   have HFB := Lib.hid hfb
   have hWw : Wr [b] w W1 := (((gB.trans HGB.out).toWr [b]).more2 hwb (fun x hx => .inr (by rw [List.mem_singleton.1 hx]; omega)))
   have HWw := Lib.hid hWw
   have HC1 := Lib.hid ((HC.out.gr (gB.trans HGB.out)).wr hwb (fun x hx => by rw [List.mem_singleton.1 hx]; omega))
   have HVS1 := Lib.hid ((VS0.out.gr HGB.out).wr hwb (by simp; omega))
   clear hvb hrb hpb hfb hwb hWw
   have hgbW : B.heap.size ≤ W0.heap.size := HGB.out.size
   by_cases hn0 : NL.length = 0
   ·have hn2 : ((NL.length : Int) == 0) = true := by simp [hn0]
    go_upto_region 16 with fail
    have e0 := HVB1.out.cell (k := 0) (by simp)
    have e1 := HVB1.out.cell (k := 1) (by simp)
    have e2 := HVB1.out.cell (k := 2) (by simp)
    have e3 := HVB1.out.cell (k := 3) (by simp)
    have e4 := HVB1.out.cell (k := 4) (by simp)
    have e5 := HVB1.out.cell (k := 5) (by simp)
    have ze := blk e0
    have s0 := HVS1.out.cell (k := 0) (by simp)
    have s1 := HVS1.out.cell (k := 1) (by simp)
    have s2 := HVS1.out.cell (k := 2) (by simp)
    have s3 := HVS1.out.cell (k := 3) (by simp)
    have s4 := HVS1.out.cell (k := 4) (by simp)
    have s5 := HVS1.out.cell (k := 5) (by simp)
    have f0 := HVS1.out.frozen 0
    have f1 := HVS1.out.frozen 1
    have f2 := HVS1.out.frozen 2
    have f3 := HVS1.out.frozen 3
    have f4 := HVS1.out.frozen 4
    have f5 := HVS1.out.frozen 5
    have zs := blk s0
    go_wp2_with fail
    generalize hU : ((((((W1.setCell ⟨w.heap.size + 1, 0, none⟩ (.string b0)).setCell ⟨w.heap.size + 1, 1, none⟩ (.string b1)).setCell ⟨w.heap.size + 1, 2, none⟩ (.slice ab2 b2.length kb2)).setCell ⟨w.heap.size + 1, 3, none⟩ (.bool b3)).setCell ⟨w.heap.size + 1, 4, none⟩ (.slice ab4 b4.length kb4)).setCell ⟨w.heap.size + 1, 5, none⟩ (.slice ab5 b5.length kb5)) = U
    have vU : VRow U (w.heap.size + 1) 138 [.string b0, .string b1, .slice ab2 b2.length kb2, .bool b3, .slice ab4 b4.length kb4, .slice ab5 b5.length kb5] := by rw [← hU]; exact VRow.put6 HVS1.out _ _ _ _ _ _
    have wU : Wr [w.heap.size + 1] W1 U := by rw [← hU]; exact Wr.put6 _ _ _ _ _ _ _ _
    clear hU
    have r0 := vU.cell (k := 0) (by simp)
    have r1 := vU.cell (k := 1) (by simp)
    have r2 := vU.cell (k := 2) (by simp)
    have r3 := vU.cell (k := 3) (by simp)
    have r4 := vU.cell (k := 4) (by simp)
    have r5 := vU.cell (k := 5) (by simp)
    exact bodyPost_ret (v := .agg #[.string b0, .string b1, .slice ab2 b2.length kb2, .bool b3, .slice ab4 b4.length kb4, .slice ab5 b5.length kb5]) (by simp [results, Try.results108, go_sem, r0, r1, r2, r3, r4, r5]) rfl ⟨_, fb, (b0, b1, b2, b3, b4, b5), rfl, Rd.wr HRB1.out wU (fun c hc hm => by have h1 := HFB.out c hc; have h2 := List.mem_singleton.1 hm; omega), HPB.out.1, (fun _ => HPB.out.2), fun c hc => by have := HFB.out c hc; omega, HC1.out.wr wU (fun x hx => by rw [List.mem_singleton.1 hx]; omega), HWw.out.more2 wU (fun x hx => .inr (by rw [List.mem_singleton.1 hx]; omega))⟩
   ·have hn2 : ((NL.length : Int) == 0) = false := by simp [hn0]
    by_cases hr : room < 5
    ·go_upto_region 16 with fail
     have e0 := HVB1.out.cell (k := 0) (by simp)
     have e1 := HVB1.out.cell (k := 1) (by simp)
     have e2 := HVB1.out.cell (k := 2) (by simp)
     have e3 := HVB1.out.cell (k := 3) (by simp)
     have e4 := HVB1.out.cell (k := 4) (by simp)
     have e5 := HVB1.out.cell (k := 5) (by simp)
     have ze := blk e0
     have s0 := HVS1.out.cell (k := 0) (by simp)
     have s1 := HVS1.out.cell (k := 1) (by simp)
     have s2 := HVS1.out.cell (k := 2) (by simp)
     have s3 := HVS1.out.cell (k := 3) (by simp)
     have s4 := HVS1.out.cell (k := 4) (by simp)
     have s5 := HVS1.out.cell (k := 5) (by simp)
     have f0 := HVS1.out.frozen 0
     have f1 := HVS1.out.frozen 1
     have f2 := HVS1.out.frozen 2
     have f3 := HVS1.out.frozen 3
     have f4 := HVS1.out.frozen 4
     have f5 := HVS1.out.frozen 5
     have zs := blk s0
     go_wp2_with fail
     generalize hU : ((((((W1.setCell ⟨w.heap.size + 1, 0, none⟩ (.string b0)).setCell ⟨w.heap.size + 1, 1, none⟩ (.string b1)).setCell ⟨w.heap.size + 1, 2, none⟩ (.slice ab2 b2.length kb2)).setCell ⟨w.heap.size + 1, 3, none⟩ (.bool b3)).setCell ⟨w.heap.size + 1, 4, none⟩ (.slice ab4 b4.length kb4)).setCell ⟨w.heap.size + 1, 5, none⟩ (.slice ab5 b5.length kb5)) = U
     have vU : VRow U (w.heap.size + 1) 138 [.string b0, .string b1, .slice ab2 b2.length kb2, .bool b3, .slice ab4 b4.length kb4, .slice ab5 b5.length kb5] := by rw [← hU]; exact VRow.put6 HVS1.out _ _ _ _ _ _
     have wU : Wr [w.heap.size + 1] W1 U := by rw [← hU]; exact Wr.put6 _ _ _ _ _ _ _ _
     clear hU
     have r0 := vU.cell (k := 0) (by simp)
     have r1 := vU.cell (k := 1) (by simp)
     have r2 := vU.cell (k := 2) (by simp)
     have r3 := vU.cell (k := 3) (by simp)
     have r4 := vU.cell (k := 4) (by simp)
     have r5 := vU.cell (k := 5) (by simp)
     exact bodyPost_ret (v := .agg #[.string b0, .string b1, .slice ab2 b2.length kb2, .bool b3, .slice ab4 b4.length kb4, .slice ab5 b5.length kb5]) (by simp [results, Try.results108, go_sem, r0, r1, r2, r3, r4, r5]) rfl ⟨_, fb, (b0, b1, b2, b3, b4, b5), rfl, Rd.wr HRB1.out wU (fun c hc hm => by have h1 := HFB.out c hc; have h2 := List.mem_singleton.1 hm; omega), HPB.out.1, (fun _ => HPB.out.2), fun c hc => by have := HFB.out c hc; omega, HC1.out.wr wU (fun x hx => by rw [List.mem_singleton.1 hx]; omega), HWw.out.more2 wU (fun x hx => .inr (by rw [List.mem_singleton.1 hx]; omega))⟩
    ·go_wp2_with fail
     refine (l1Once_any b 4 _ HC1.out (by omega) (by omega)).mono ?_
     rintro e W2 ⟨xo, rfl, hc2, hw2⟩
     have hs12 := hw2.size
     have HC2 := Lib.hid hc2
     have HW2 := Lib.hid (HWw.out.trans hw2)
     have HVB2 := Lib.hid (HVB1.out.wr hw2 (by simp; omega))
     have HVS2 := Lib.hid (HVS1.out.wr hw2 (by simp; omega))
     have HRB2 := Lib.hid (Rd.wr HRB1.out hw2 (fun c hc hm => by have h1 := HFB.out c hc; have h2 := List.mem_singleton.1 hm; omega))
     have HW12 := Lib.hid hw2
     clear hc2 hw2
     cases xo with
     | true =>
      go_upto_region 16 with fail
      have e0 := HVB2.out.cell (k := 0) (by simp)
      have e1 := HVB2.out.cell (k := 1) (by simp)
      have e2 := HVB2.out.cell (k := 2) (by simp)
      have e3 := HVB2.out.cell (k := 3) (by simp)
      have e4 := HVB2.out.cell (k := 4) (by simp)
      have e5 := HVB2.out.cell (k := 5) (by simp)
      have ze := blk e0
      have s0 := HVS2.out.cell (k := 0) (by simp)
      have s1 := HVS2.out.cell (k := 1) (by simp)
      have s2 := HVS2.out.cell (k := 2) (by simp)
      have s3 := HVS2.out.cell (k := 3) (by simp)
      have s4 := HVS2.out.cell (k := 4) (by simp)
      have s5 := HVS2.out.cell (k := 5) (by simp)
      have f0 := HVS2.out.frozen 0
      have f1 := HVS2.out.frozen 1
      have f2 := HVS2.out.frozen 2
      have f3 := HVS2.out.frozen 3
      have f4 := HVS2.out.frozen 4
      have f5 := HVS2.out.frozen 5
      have zs := blk s0
      go_wp2_with fail
      generalize hU : ((((((W2.setCell ⟨w.heap.size + 1, 0, none⟩ (.string b0)).setCell ⟨w.heap.size + 1, 1, none⟩ (.string b1)).setCell ⟨w.heap.size + 1, 2, none⟩ (.slice ab2 b2.length kb2)).setCell ⟨w.heap.size + 1, 3, none⟩ (.bool b3)).setCell ⟨w.heap.size + 1, 4, none⟩ (.slice ab4 b4.length kb4)).setCell ⟨w.heap.size + 1, 5, none⟩ (.slice ab5 b5.length kb5)) = U
      have vU : VRow U (w.heap.size + 1) 138 [.string b0, .string b1, .slice ab2 b2.length kb2, .bool b3, .slice ab4 b4.length kb4, .slice ab5 b5.length kb5] := by rw [← hU]; exact VRow.put6 HVS2.out _ _ _ _ _ _
      have wU : Wr [w.heap.size + 1] W2 U := by rw [← hU]; exact Wr.put6 _ _ _ _ _ _ _ _
      clear hU
      have r0 := vU.cell (k := 0) (by simp)
      have r1 := vU.cell (k := 1) (by simp)
      have r2 := vU.cell (k := 2) (by simp)
      have r3 := vU.cell (k := 3) (by simp)
      have r4 := vU.cell (k := 4) (by simp)
      have r5 := vU.cell (k := 5) (by simp)
      exact bodyPost_ret (v := .agg #[.string b0, .string b1, .slice ab2 b2.length kb2, .bool b3, .slice ab4 b4.length kb4, .slice ab5 b5.length kb5]) (by simp [results, Try.results108, go_sem, r0, r1, r2, r3, r4, r5]) rfl ⟨_, fb, (b0, b1, b2, b3, b4, b5), rfl, Rd.wr HRB2.out wU (fun c hc hm => by have h1 := HFB.out c hc; have h2 := List.mem_singleton.1 hm; omega), HPB.out.1, (fun _ => HPB.out.2), fun c hc => by have := HFB.out c hc; omega, HC2.out.wr wU (fun x hx => by rw [List.mem_singleton.1 hx]; omega), HW2.out.more2 wU (fun x hx => .inr (by rw [List.mem_singleton.1 hx]; omega))⟩
     | false =>
      have hs3 := (HSL1.out).open
      obtain ⟨a', c', he, o1, o2, o3⟩ := hs3
      injection he with e1 e2 e3
      clear e2
      subst e1 e3
      obtain ⟨bn, offn, rfl, hbn⟩ := o3 0 (by omega)
      clear o1 o2 o3
      have HSL2 := Lib.hid (HSL1.out.wr HW12.out (fun c hc hm => by have h1 := HFL.out c hc; have h2 := List.mem_singleton.1 hm; omega))
      have hbnf : bn ≠ b := by
       obtain ⟨_, _, he, _, _, h5⟩ := HSL1.out
       rcases h5 with ⟨h6, -⟩ | ⟨b9, off9, fps9, -, h7, h8, -⟩
       ·exact absurd (by rw [h6]; rfl) hn0
       ·injection he with he1 _ _
        have h9 := he1.trans h7
        have h10 : bn = b9 := congrArg Addr.block (Option.some.inj h9)
        have := HFL.out b9 (by rw [h8]; simp)
        omega
      have HBN := Lib.hid (show bn ∉ [b] by simpa using hbnf)
      have HRG2 := Lib.hid (Rd.wr HRG1.out HW12.out (fun c hc hm => hbg (List.mem_singleton.1 hm ▸ hc)))
      have y0 := HW12.out.keepC y0 (by simp; omega)
      have y1 := HW12.out.keepC y1 (by simp; omega)
      have zy0 := blk y0
      have hbl2 : b < W2.heap.size := HC2.out.lt
      clear hbn hbnf
      go_upto_region 17 with fail
      refine wp_region_K (SRX d b W2) (VRX b NL.length bn offn kl #[.slice ag0 g0.length kg0, .slice ag1 g1.length kg1]) 13 [89, 90, 91, 92, 93, 94, 95, 96, 97, 88, 98, 99, 17, 18] (by kernel_rfl) (by kernel_rfl) (by kernel_rfl) ⟨⟨(fun h => by cases h), (fun h => by cases h)⟩, HC2.out.gr (Gr.drew (Gr.refl _)), (Gr.drew (Gr.refl W2)).toWr [b], (fun _ h => by cases h), (fun _ h => by cases h), (fun h => by cases h)⟩ ?_ ?_
      ·refine ⟨?_, ?_, ?_, ?_, ?_, ?_, ?_, ?_, ?_, ?_, ?_, ?_, ?_, ?_, ?_, trivial⟩
       all_goals intro D f a w' hDz hsz' hDi hdone hf hS hfr hV K hK
       all_goals have HSZ := Lib.hid hsz'
       all_goals clear hsz'
       all_goals have hR := hS.2
       ·have e5 : a.tmps[5]?.getD undef = .pointer (some ⟨w.heap.size, 0, none⟩) := hfr 5 (by kernel_rfl)
        have y0 := hR.2.1.keepC y0 (by simp; omega)
        have y1 := hR.2.1.keepC y1 (by simp; omega)
        have zy0 := blk y0
        go_simp
        refine hK.out _ _ (by simpa [SRX, Act.put, Array.getElem?_setIfInBounds] using hS) (fun d h => h) (fun d hd => ?_)
        obtain rfl := Option.some.inj hd
        exact rfl
       ·have e9 : a.tmps[9]?.getD undef = .slice (some ⟨bn, offn, none⟩) NL.length kl := hfr 9 (by kernel_rfl)
        go_simp
        refine hK.out _ _ (by simpa [SRX, Act.put, Array.getElem?_setIfInBounds] using hS) (fun d h => h) (fun d hd => ?_)
        obtain rfl := Option.some.inj hd
        exact rfl
       ·have e0 : a.tmps[0]?.getD undef = .pointer (some ⟨b, 0, none⟩) := hfr 0 (by kernel_rfl)
        go_simp
        refine hK.out _ _ (by simpa [SRX, Act.put, Array.getElem?_setIfInBounds] using hS) (fun d h => h) (fun d hd => ?_)
        obtain rfl := Option.some.inj hd
        exact rfl
       ·have e9 : a.tmps[9]?.getD undef = .slice (some ⟨bn, offn, none⟩) NL.length kl := hfr 9 (by kernel_rfl)
        go_simp
        refine hK.out _ _ (by simpa [SRX, Act.put, Array.getElem?_setIfInBounds] using hS) (fun d h => h) (fun d hd => ?_)
        obtain rfl := Option.some.inj hd
        exact rfl
       ·have e92 : a.tmps[92]?.getD undef = .slice (some ⟨bn, offn, none⟩) NL.length kl := hV 92 (by kernel_rfl)
        go_simp
        refine hK.out _ _ (by simpa [SRX, Act.put, Array.getElem?_setIfInBounds] using hS) (fun d h => h) (fun d hd => ?_)
        obtain rfl := Option.some.inj hd
        exact rfl
       ·have e91 : a.tmps[91]?.getD undef = .pointer (some ⟨b, 0, none⟩) := hV 91 (by kernel_rfl)
        have e93 : a.tmps[93]?.getD undef = .int .i64 (NL.length : Int) := hV 93 (by kernel_rfl)
        obtain rfl := hf (.inr (by kernel_rfl))
        have hCL := Lib.hid (l1Below_any b (NL.length : Int) w' hR.1 (by omega) (by omega))
        go_simp
        refine hCL.out.mono ?_
        rintro e u ⟨xk, rfl, hx0, hx1, hcx, hwx⟩
        refine hK.out _ u ?_ (fun d h => h) (fun d hd => ?_)
        ·have h9 := And.intro hS.1 (SR.wr hR hbl2 hcx hwx hDz)
         simpa [SRX, Act.put, Array.getElem?_setIfInBounds] using h9
        ·obtain rfl := Option.some.inj hd
         exact ⟨xk.toNat, by rw [Int.toNat_of_nonneg hx0], by omega⟩
       ·have e90 : a.tmps[90]?.getD undef = .slice (some ⟨bn, offn, none⟩) NL.length kl := hV 90 (by kernel_rfl)
        obtain ⟨k, e94, hk⟩ := hV 94 (by kernel_rfl)
        have k0 : (0 : Int) ≤ (k : Int) := by omega
        have k1 : (k : Int) < (NL.length : Int) := by omega
        go_simp
        refine hK.out _ _ (by simpa [SRX, Act.put, Array.getElem?_setIfInBounds] using hS) (fun d h => h) (fun d hd => ?_)
        obtain rfl := Option.some.inj hd
        exact ⟨k, rfl, hk⟩
       ·obtain ⟨k, e95, hk⟩ := hV 95 (by kernel_rfl)
        have ck := hR.2.1.keepC (HSL2.out.str_at hk).1 HBN.out
        have zk := blk ck
        generalize NL[k] = nk at ck
        go_simp
        refine hK.out _ _ (by simpa [SRX, Act.put, Array.getElem?_setIfInBounds] using hS) (fun d h => h) (fun d hd => ?_)
        obtain rfl := Option.some.inj hd
        exact ⟨nk, rfl⟩
       ·have e89 : a.tmps[89]?.getD undef = .agg #[.slice ag0 g0.length kg0, .slice ag1 g1.length kg1] := hV 89 (by kernel_rfl)
        obtain ⟨nm, e96⟩ := hV 96 (by kernel_rfl)
        obtain rfl := hf (.inr (by kernel_rfl))
        have hCL := Lib.hid (specFindRule_new (g0, g1) nm w' (Rd.wr HRG2.out hR.2.1 (fun c hc hm => hbg (List.mem_singleton.1 hm ▸ hc))) HWT.out)
        go_simp
        refine hCL.out.mono ?_
        rintro e w2 ⟨es, fq, rfl, hrs, hfr2, x3', rfl⟩
        have hok := look_fine HOK.out nm
        generalize (lookR (g0, g1).2 nm).getD zeroR = yy at hrs hok
        obtain ⟨x0, x1, x2, x3, x4, x5⟩ := yy
        obtain ⟨vr2, fr2, vr4, fr4, vr5, fr5, rfl, hfs, hr0, hr1, hr2, hr4, hr5⟩ := rdRule_inv x0 x1 x2 x3 x4 x5 hrs
        obtain ⟨ax2, kx2, rfl, -, -, -⟩ := hr2.open
        obtain ⟨ax4, kx4, rfl, -, -, -⟩ := hr4.open
        obtain ⟨ax5, kx5, rfl, -, -, -⟩ := hr5.open
        have hge := (Gr.ext (Gr.refl w') x3')
        have hs9 := hR.2.1.size
        obtain ⟨h91, h92, h93, h94, h95⟩ := SR.wr hR hbl2 (hR.1.gr hge) (hge.toWr [b]) hDz
        refine hK.out _ _ ⟨⟨fun _ => by simp, fun h => by have h' := hS.1.2 (by simpa using h); simpa using h'⟩, h91, h92, ?_, fun _ _ => ⟨x0, x1, x2, x3, x4, x5, ax2, ax4, ax5, kx2, kx4, kx5, fq, (lookR (g0, g1).2 nm).isSome, ?_, fun h9 => ?_, fun h9 => ?_, hrs, hok, fun c hc => by have := hfr2.2 c hc; omega, ?_⟩, ?_⟩ (fun d h => h) (fun d hd => ?_)
        ·simpa [Act.put, Array.getElem?_setIfInBounds] using h93
        ·rw [← eval_tmp]; exact eval_put_self (by rw [HSZ.out]; exact of_decide_eq_true rfl)
        ·exfalso; have h9' : D 9 = true := by simpa using h9
         have h8' : D 8 = true := hS.1.1 h9'
         exact absurd (h8'.symm.trans hDi) (by decide)
        ·exfalso; have h9' : D 10 = true := by simpa using h9
         have h8' : D 8 = true := hS.1.1 (hS.1.2 h9')
         exact absurd (h8'.symm.trans hDi) (by decide)
        ·intro hq gn o' hg hm
         obtain ⟨g2, k1, k2, k3⟩ := hR.2.2.1 hDz (by simpa using hq)
         have k4 : a.tmps[17]?.getD undef = .pointer (some ⟨gn, o', none⟩) := by simpa [Act.put, Array.getElem?_setIfInBounds] using hg
         rw [k1] at k4
         cases k4
         have := k3.lt
         have := hfr2.2 _ hm
         omega
        ·simpa [Act.put, Array.getElem?_setIfInBounds] using h95
        ·obtain rfl := Option.some.inj hd
         exact ⟨_, _, rfl⟩
       ·obtain rfl := hf (.inr (by kernel_rfl))
        have hd8 : D 8 = true := hdone 8 (by kernel_rfl)
        obtain ⟨x0, x1, x2, x3, x4, x5, ax2, ax4, ax5, kx2, kx4, kx5, fq, o, e97, e2, e3, e4, e5, e6, e7⟩ := hR.2.2.2.1 hDz hd8
        go_simp
        refine hK.out _ _ ⟨⟨fun _ => by simpa using hd8, fun _ => by simp⟩, hR.1, hR.2.1, ?_, fun _ _ => ⟨x0, x1, x2, x3, x4, x5, ax2, ax4, ax5, kx2, kx4, kx5, fq, o, ?_, fun _ => ?_, fun h => ?_, e4, e5, e6, ?_⟩, ?_⟩ (fun d h => h) (fun d hd => ?_)
        ·simpa [Act.put, Array.getElem?_setIfInBounds] using hR.2.2.1
        ·simpa [Act.put, Array.getElem?_setIfInBounds] using e97
        ·rw [← eval_tmp, eval_put_self (by rw [HSZ.out]; exact of_decide_eq_true rfl)]
         have e97' := e97.symm
         simpa [Act.put, Array.getElem?_setIfInBounds] using e97'
        ·exfalso
         have h9' : D 9 = true := hS.1.2 (by simpa using h)
         exact absurd (h9'.symm.trans hDi) (by decide)
        ·simpa [Act.put, Array.getElem?_setIfInBounds] using e7
        ·simpa [Act.put, Array.getElem?_setIfInBounds] using hR.2.2.2.2
        ·obtain rfl := Option.some.inj hd
         exact ⟨_, _, rfl⟩
       ·obtain rfl := hf (.inr (by kernel_rfl))
        have hd9 : D 9 = true := hdone 9 (by kernel_rfl)
        have hd8 : D 8 = true := hS.1.1 hd9
        obtain ⟨x0, x1, x2, x3, x4, x5, ax2, ax4, ax5, kx2, kx4, kx5, fq, o, e97, e2, e3, e4, e5, e6, e7⟩ := hR.2.2.2.1 hDz hd8
        have e88 : a.tmps[88]?.getD undef = .tuple #[.agg #[.string x0, .string x1, .slice ax2 x2.length kx2, .bool x3, .slice ax4 x4.length kx4, .slice ax5 x5.length kx5], .bool o] := (e2 hd9).trans e97
        clear e2
        go_simp
        refine hK.out _ _ ⟨⟨fun _ => by simpa using hd8, fun _ => by simpa using hd9⟩, hR.1, hR.2.1, ?_, fun _ _ => ⟨x0, x1, x2, x3, x4, x5, ax2, ax4, ax5, kx2, kx4, kx5, fq, o, ?_, fun _ => ?_, fun _ => ?_, e4, e5, e6, ?_⟩, ?_⟩ (fun d h => h) (fun d hd => ?_)
        ·simpa [Act.put, Array.getElem?_setIfInBounds] using hR.2.2.1
        ·simpa [Act.put, Array.getElem?_setIfInBounds] using e97
        ·have e2' := e88.trans e97.symm
         simpa [Act.put, Array.getElem?_setIfInBounds] using e2'
        ·rw [← eval_tmp, eval_put_self (by rw [HSZ.out]; exact of_decide_eq_true rfl)]
        ·simpa [Act.put, Array.getElem?_setIfInBounds] using e7
        ·simpa [Act.put, Array.getElem?_setIfInBounds] using hR.2.2.2.2
        ·obtain rfl := Option.some.inj hd
         exact trivial
       ·obtain ⟨c, o, e88⟩ := hV 88 (by kernel_rfl)
        go_simp
        refine hK.out _ _ (by simpa [SRX, Act.put, Array.getElem?_setIfInBounds] using hS) (fun d h => h) (fun d hd => ?_)
        obtain rfl := Option.some.inj hd
        exact ⟨o, rfl⟩
       ·obtain rfl := hf (.inr (by kernel_rfl))
        go_simp
        have hga := (Gr.alloc (Gr.refl w') (.cells #[.string ⟨#[]⟩, .string ⟨#[]⟩, .slice none 0 0, .bool false, .slice none 0 0, .slice none 0 0] 138))
        refine hK.out _ _ ⟨⟨fun h => by have h' := hS.1.1 (by simpa using h); simpa using h', fun h => by have h' := hS.1.2 (by simpa using h); simpa using h'⟩, hR.1.gr hga, hR.2.1.gr hga, fun _ _ => ⟨_, ?_, hR.2.1.size, VRow.new rfl⟩, fun _ hp => ?_, fun hz => ?_⟩ (fun d h => h) (fun d hd => ?_)
        ·rw [← eval_tmp]; exact eval_put_self (by rw [HSZ.out]; exact of_decide_eq_true rfl)
        ·obtain ⟨x0, x1, x2, x3, x4, x5, ax2, ax4, ax5, kx2, kx4, kx5, fq, o, e97, e2, e3, e4, e5, e6, e7⟩ := hR.2.2.2.1 hDz (by simpa using hp)
         refine ⟨x0, x1, x2, x3, x4, x5, ax2, ax4, ax5, kx2, kx4, kx5, fq, o, by simpa [Act.put, Array.getElem?_setIfInBounds] using e97, by simpa [Act.put, Array.getElem?_setIfInBounds] using e2, by simpa [Act.put, Array.getElem?_setIfInBounds] using e3, Rd.gr e4 hga, e5, e6, fun _ gn o' hg => ?_⟩
         rw [← eval_tmp, eval_put_self (by rw [HSZ.out]; exact of_decide_eq_true rfl)] at hg
         cases hg
         intro hm
         have := Rd.lt e4 _ hm
         omega
        ·exfalso
         have : D 13 = true := by simpa using hz
         rw [hDz] at this; cases this
        ·obtain rfl := Option.some.inj hd
         exact trivial
       ·obtain rfl := hf (.inl rfl)
        have hd10 : D 10 = true := hdone 10 (by kernel_rfl)
        have hd12 : D 12 = true := hdone 12 (by kernel_rfl)
        have hd9 := hS.1.2 hd10
        obtain ⟨x0, x1, x2, x3, x4, x5, ax2, ax4, ax5, kx2, kx4, kx5, fq, o, e97, e2, e3, e4, e5, e6, e7⟩ := hR.2.2.2.1 hDz (hS.1.1 hd9)
        obtain ⟨gn, m1, m2, m3⟩ := hR.2.2.1 hDz hd12
        have hne := e7 hd12 gn 0 m1
        have e98 := e3 hd10
        have HGV := Lib.hid m3
        have HE4 := Lib.hid e4
        have HE6 := Lib.hid e6
        have JC := Lib.hid hR.1
        have JW := Lib.hid hR.2.1
        have HI := Lib.hid hS.1
        have c0 := m3.cell (k := 0) (by simp)
        have f0 := m3.frozen 0
        have c1 := m3.cell (k := 1) (by simp)
        have f1 := m3.frozen 1
        have c2 := m3.cell (k := 2) (by simp)
        have f2 := m3.frozen 2
        have c3 := m3.cell (k := 3) (by simp)
        have f3 := m3.frozen 3
        have c4 := m3.cell (k := 4) (by simp)
        have f4 := m3.frozen 4
        have c5 := m3.cell (k := 5) (by simp)
        have f5 := m3.frozen 5
        have zg := blk c0
        clear hS hR m3 e4 e6 e2 e3 e7 e97
        go_simp
        generalize hU : ((((((w'.setCell ⟨gn, 0, none⟩ (.string x0)).setCell ⟨gn, 1, none⟩ (.string x1)).setCell ⟨gn, 2, none⟩ (.slice ax2 x2.length kx2)).setCell ⟨gn, 3, none⟩ (.bool x3)).setCell ⟨gn, 4, none⟩ (.slice ax4 x4.length kx4)).setCell ⟨gn, 5, none⟩ (.slice ax5 x5.length kx5)) = U
        have vU : VRow U gn 138 [.string x0, .string x1, .slice ax2 x2.length kx2, .bool x3, .slice ax4 x4.length kx4, .slice ax5 x5.length kx5] := by rw [← hU]; exact VRow.put6 HGV.out _ _ _ _ _ _
        have wU : Wr [gn] w' U := by rw [← hU]; exact Wr.put6 _ _ _ _ _ _ _ _
        clear hU
        refine hK.out undef U ⟨⟨fun h => by have h' := HI.out.1 (by simpa using h); simpa using h', fun h => by have h' := HI.out.2 (by simpa using h); simpa using h'⟩, JC.out.wr wU (fun x hx => by rw [List.mem_singleton.1 hx]; omega), JW.out.more2 wU (fun x hx => .inr (by rw [List.mem_singleton.1 hx]; omega)), (fun h => by cases h), (fun h => by cases h), fun _ => ⟨gn, x0, x1, x2, x3, x4, x5, ax2, ax4, ax5, kx2, kx4, kx5, fq, m1, vU, Rd.wr HE4.out wU (fun c hc hm => hne (List.mem_singleton.1 hm ▸ hc)), e5, m2, HE6.out⟩⟩ (fun d h => h) (fun d hd => by cases hd)
       ·obtain ⟨o, e99⟩ := hV 99 (by kernel_rfl)
        go_simp
        refine hK.out _ _ (by simpa [SRX, Act.put, Array.getElem?_setIfInBounds] using hS) (fun d h => h) (fun d hd => ?_)
        obtain rfl := Option.some.inj hd
        exact trivial
      ·intro D t W4 hall hlay hS4 hV
       obtain ⟨gx, b0, b1, b2, b3, b4, b5, ab2, ab4, ab5, kb2, kb4, kb5, fb, m1, m2, m3, m4, m5, m6⟩ := hS4.2.2.2.2.2 (hall 13 (of_decide_eq_true rfl))
       rw [hlay 17 (by kernel_rfl)] at m1
       simp only [layI, List.foldl_cons, List.foldl_nil, Act.put, List.setIfInBounds_toArray, List.set_cons_zero, List.set_cons_succ, m1]
       have HVB4 := Lib.hid m2
       have HRB4 := Lib.hid m3
       have HFB := Lib.hid m6
       have HC4 := Lib.hid hS4.2.1
       have hw24 := hS4.2.2.1
       have hz24 := hw24.size
       have HVS4 := Lib.hid (HVS2.out.wr hw24 (by simp; omega))
       have HW4 := Lib.hid (HW2.out.trans hw24)
       clear m2 m3 m6 hw24 hS4 hV hlay hall
       go_upto_region 18 with fail
       have e0 := HVB4.out.cell (k := 0) (by simp)
       have e1 := HVB4.out.cell (k := 1) (by simp)
       have e2 := HVB4.out.cell (k := 2) (by simp)
       have e3 := HVB4.out.cell (k := 3) (by simp)
       have e4 := HVB4.out.cell (k := 4) (by simp)
       have e5 := HVB4.out.cell (k := 5) (by simp)
       have ze := blk e0
       have s0 := HVS4.out.cell (k := 0) (by simp)
       have s1 := HVS4.out.cell (k := 1) (by simp)
       have s2 := HVS4.out.cell (k := 2) (by simp)
       have s3 := HVS4.out.cell (k := 3) (by simp)
       have s4 := HVS4.out.cell (k := 4) (by simp)
       have s5 := HVS4.out.cell (k := 5) (by simp)
       have f0 := HVS4.out.frozen 0
       have f1 := HVS4.out.frozen 1
       have f2 := HVS4.out.frozen 2
       have f3 := HVS4.out.frozen 3
       have f4 := HVS4.out.frozen 4
       have f5 := HVS4.out.frozen 5
       have zs := blk s0
       go_wp2_with fail
       generalize hU : ((((((W4.setCell ⟨w.heap.size + 1, 0, none⟩ (.string b0)).setCell ⟨w.heap.size + 1, 1, none⟩ (.string b1)).setCell ⟨w.heap.size + 1, 2, none⟩ (.slice ab2 b2.length kb2)).setCell ⟨w.heap.size + 1, 3, none⟩ (.bool b3)).setCell ⟨w.heap.size + 1, 4, none⟩ (.slice ab4 b4.length kb4)).setCell ⟨w.heap.size + 1, 5, none⟩ (.slice ab5 b5.length kb5)) = U
       have vU : VRow U (w.heap.size + 1) 138 [.string b0, .string b1, .slice ab2 b2.length kb2, .bool b3, .slice ab4 b4.length kb4, .slice ab5 b5.length kb5] := by rw [← hU]; exact VRow.put6 HVS4.out _ _ _ _ _ _
       have wU : Wr [w.heap.size + 1] W4 U := by rw [← hU]; exact Wr.put6 _ _ _ _ _ _ _ _
       clear hU
       have r0 := vU.cell (k := 0) (by simp)
       have r1 := vU.cell (k := 1) (by simp)
       have r2 := vU.cell (k := 2) (by simp)
       have r3 := vU.cell (k := 3) (by simp)
       have r4 := vU.cell (k := 4) (by simp)
       have r5 := vU.cell (k := 5) (by simp)
       exact bodyPost_ret (v := .agg #[.string b0, .string b1, .slice ab2 b2.length kb2, .bool b3, .slice ab4 b4.length kb4, .slice ab5 b5.length kb5]) (by simp [results, Try.results108, go_sem, r0, r1, r2, r3, r4, r5]) rfl ⟨_, fb, (b0, b1, b2, b3, b4, b5), rfl, Rd.wr HRB4.out wU (fun c hc hm => by have h1 := HFB.out c hc; have h2 := List.mem_singleton.1 hm; omega), m4, (fun h => absurd h (by omega)), fun c hc => by have := HFB.out c hc; omega, HC4.out.wr wU (fun x hx => by rw [List.mem_singleton.1 hx]; omega), HW4.out.more2 wU (fun x hx => .inr (by rw [List.mem_singleton.1 hx]; omega))⟩
end Go.Proofs.Ytmfcagcanhmdbaa
