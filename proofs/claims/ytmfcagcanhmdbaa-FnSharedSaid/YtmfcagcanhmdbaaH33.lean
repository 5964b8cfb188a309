/- A plain grammar drawn. No condition. -/
import Derived.Test.YtmfcagcanhmdbaaH32
namespace Go.Proofs.Ytmfcagcanhmdbaa
open Go.RowKit
set_option linter.unusedVariables false
set_option linter.unusedSimpArgs false
variable {d : Nat}

def SymsIn (b : Nat) (B : World) (G k : Nat) (wr : World) : Prop :=
 ∃ (vs : Value) (fs : List (List Nat)) (ss : List GSymbol), OwnR (α := GSymbol) B 133 wr vs fs ss ∧ (∀ c ∈ fs.flatten, B.heap.size ≤ c) ∧ ss.length = k ∧ (∀ s ∈ ss, SymOT s ∧ s.1.size ≤ 64) ∧ VRow wr G 114 [vs, .slice none 0 0] ∧ CurR wr b ∧ Wr [b, G] B wr
def RuleOK (x : RuleM d) : Prop := x.r.1.size ≤ 68 ∧ x.r.2.1.size ≤ 64 ∧ x.r.2.2.1.length ≤ 3 ∧ (∀ s ∈ x.r.2.2.1, s.size ≤ 64) ∧ wtEquationS x.r.2.2.2.2.1 ≤ 30000 ∧ x.r.2.2.2.2.2 = []
def RulesIn (d b : Nat) (B : World) (G : Nat) (vs : Value) (K : Nat) (wr : World) : Prop :=
 ∃ (vr : Value) (fr : List (List Nat)) (rs : List (RuleM d)), OwnR B 138 wr vr fr rs ∧ (∀ c ∈ fr.flatten, B.heap.size ≤ c) ∧ rs.length ≤ K ∧ (∀ x ∈ rs, RuleOK x ∧ x.raw = true) ∧ VRow wr G 114 [vs, vr] ∧ CurR wr b ∧ Wr [b, G] B wr
theorem RulesIn.wr {b G K : Nat} {B wx wy : World} {vs : Value} (h : RulesIn d b B G vs K wx) (hb : b < B.heap.size) (hG : b ≠ G) (hc : CurR wy b) (hw : Wr [b] wx wy) : RulesIn d b B G vs K wy := by
 obtain ⟨vr, fr, rs, h1, h2, h3, h4, h5, h6, h7⟩ := h
 exact ⟨vr, fr, rs, h1.wr hw (fun c hc hm => by have h1 := h2 c hc; have h2 := List.mem_singleton.1 hm; omega) (fun c hc hm => by have h1 := (h1.base c hc).1; have h2 := List.mem_singleton.1 hm; omega), h2, h3, h4, h5.wr hw (by simp; omega), hc, h7.trans (hw.sub (fun c hc => by rw [List.mem_singleton.1 hc]; simp))⟩
theorem RulesIn.mono {b G K K' : Nat} {B wx : World} {vs : Value} (h : RulesIn d b B G vs K wx) (hk : K ≤ K') : RulesIn d b B G vs K' wx := by
 obtain ⟨vr, fr, rs, h1, h2, h3, h4⟩ := h
 exact ⟨vr, fr, rs, h1, h2, Nat.le_trans h3 hk, h4⟩
theorem RulesIn.push {b G K n vc : Nat} {va : Option Addr} {B w5 : World} {vs v0 : Value} {fr : List (List Nat)} {fq : List Nat} {rs : List (RuleM d)} {x : RuleM d} (K1 : OwnR B 138 w5 (.slice va n vc) (fr ++ [fq]) (rs ++ [x])) (hf : ∀ c ∈ fr.flatten, B.heap.size ≤ c) (hq : ∀ c ∈ fq, B.heap.size ≤ c) (hl : rs.length ≤ K) (hok : ∀ x ∈ rs, RuleOK x ∧ x.raw = true) (hx : RuleOK x ∧ x.raw = true) (hvg : VRow w5 G 114 [vs, v0]) (hc : CurR w5 b) (hw : Wr [b, G] B w5) (hG : G < B.heap.size) (hb : b < G) :
  RulesIn d b B G vs (K + 1) (w5.setCell ⟨G, 1, none⟩ (.slice va n vc)) := by
 have wst : Wr [G] w5 (w5.setCell ⟨G, 1, none⟩ (.slice va n vc)) := Wr.setCell (Wr.refl [G] w5) (List.mem_singleton.2 rfl) _
 have hfs : ∀ c ∈ (fr ++ [fq]).flatten, B.heap.size ≤ c := fun c hc => by
  rw [List.flatten_append] at hc
  rcases List.mem_append.1 hc with h | h
  ·exact hf c h
  ·exact hq c (by simpa using h)
 refine ⟨_, _, _, K1.wr wst (fun c hc hm => by have h1 := hfs c hc; have h2 := List.mem_singleton.1 hm; omega) (fun c hc hm => by have h1 := (K1.base c hc).1; have h2 := List.mem_singleton.1 hm; omega), hfs, by simp; omega, fun y hy => ?_, hvg.set 1 _, hc.wr wst (fun x hx => by rw [List.mem_singleton.1 hx]; exact hb), hw.trans (wst.sub (fun c hc => by rw [List.mem_singleton.1 hc]; simp))⟩
 rcases List.mem_append.1 hy with h | h
 ·exact hok y h
 ·rw [List.mem_singleton.1 h]; exact hx
def RuV (b nb i m : Nat) (q : ByteArray) (j : Nat) (W : World) (_ : Bool) (d : Nat) (v : Value) (wx : World) : Prop :=
 match d with
 | 73 | 81 => v = .slice (some ⟨nb, 0, none⟩) (m + 1) 3
 | 74 | 82 => v = .int .i64 (i : Int)
 | 75 | 83 => v = .pointer (some ⟨nb, i, none⟩)
 | 76 | 84 => v = .string q
 | 77 => ∃ s, v = .string s ∧ s.size ≤ 66
 | 78 => v = .int .i64 (j : Int)
 | 79 => ∃ s, v = .string s ∧ s.size ≤ 2
 | 80 => ∃ s, v = .string s ∧ s.size ≤ 68
 | 85 => v = .pointer (some ⟨b, 0, none⟩)
 | 86 => ∃ x, v = .bool x
 | 87 => ∃ s x, v = .agg #[.string s, .string q, .slice none 0 0, .bool x, .slice none 0 0, .slice none 0 0] ∧ s.size ≤ 68
 | 12 => ∃ g s q' x, v = .pointer (some ⟨g, 0, none⟩) ∧ W.heap.size ≤ g ∧ VRow wx g 138 [.string s, .string q', .slice none 0 0, .bool x, .slice none 0 0, .slice none 0 0] ∧ s.size ≤ 68 ∧ q'.size ≤ 64
 | _ => True
def CurS (b : Nat) (W : World) (_ : Bool) (wx : World) : Prop := CurR wx b ∧ Wr [b] W wx
theorem RuV.keep {b nb i m j : Nat} {q : ByteArray} {W wx wy : World} {f f' : Bool} {d : Nat} {v : Value} (h : RuV b nb i m q j W f d v wx) (hw : Wr [b] wx wy) (hb : b < W.heap.size) : RuV b nb i m q j W f' d v wy := by
 unfold RuV at h ⊢
 split at h <;> first
  | exact h
  | (obtain ⟨g, s, q', x, e, h1, h2, h3⟩ := h; exact ⟨g, s, q', x, e, h1, h2.wr hw (by simp; omega), h3⟩)
def RightIn (b : Nat) (B4 : World) (gr : Nat) (s1 q : ByteArray) (x1 : Bool) (k : Nat) (wr : World) : Prop :=
 ∃ (v : Value) (fps : List (List Nat)) (xs : List ByteArray), OwnR (α := ByteArray) B4 9 wr v fps xs ∧ fps.flatten = [] ∧ xs.length = k ∧ (∀ x ∈ xs, x.size ≤ 64) ∧ VRow wr gr 138 [.string s1, .string q, v, .bool x1, .slice none 0 0, .slice none 0 0] ∧ CurR wr b ∧ Wr [b, gr] B4 wr
def FillIn (d b : Nat) (B : World) (G : Nat) (vs : Value) (N k : Nat) (wr : World) : Prop :=
 ∃ (vr : Value) (fr : List (List Nat)) (rs : List (RuleM d)), OwnR B 138 wr vr fr rs ∧ (∀ c ∈ fr.flatten, B.heap.size ≤ c) ∧ rs.length = N ∧ (∀ x ∈ rs, RuleOK x) ∧ (∀ j (h : j < rs.length), k ≤ j → rs[j].raw = true) ∧ VRow wr G 114 [vs, vr] ∧ CurR wr b ∧ Wr [b, G] B wr
theorem RuleOK.wt {x : RuleM d} (h : RuleOK x) : wtRule x.r ≤ 31000 := by
 obtain ⟨h1, h2, h3, h4, h5, h6⟩ := h
 have e : wtRule x.r = x.r.1.size + x.r.2.1.size + wtStringS x.r.2.2.1 + wtEquationS x.r.2.2.2.2.1 + wtContributionS x.r.2.2.2.2.2 := rfl
 have e2 : wtContributionS x.r.2.2.2.2.2 = 0 := by rw [h6]; simp [wtContributionS, wtL]
 have e3 : wtStringS x.r.2.2.1 ≤ x.r.2.2.1.length * (1 + 64) := wtL_le _ _ h4
 have e4 : x.r.2.2.1.length * (1 + 64) ≤ 3 * (1 + 64) := Nat.mul_le_mul_right _ h3
 omega
theorem symOK_wt {s : GSymbol} (h : SymOT s ∧ s.1.size ≤ 64) : wtSymbol s ≤ 400 := by
 obtain ⟨⟨h1, h2⟩, h3⟩ := h
 have e : wtSymbol s = s.1.size + wtAttributeS s.2 := rfl
 have e3 : wtAttributeS s.2 ≤ s.2.length * (1 + 64) := wtL_le _ _ (fun a ha => (h2 a ha).1)
 have e4 : s.2.length * (1 + 64) ≤ 4 * (1 + 64) := Nat.mul_le_mul_right _ h1
 omega
theorem gram_wt {ss : List GSymbol} {rs : List (GRule d)} (h1 : ss.length ≤ 3) (h2 : ∀ s ∈ ss, SymOT s ∧ s.1.size ≤ 64) (h3 : rs.length ≤ 8) (h4 : ∀ r ∈ rs, wtRule r ≤ 31000) : wtGrammar ((ss, rs) : GGrammar d) ≤ 1048576 := by
 have e : wtGrammar ((ss, rs) : GGrammar d) = wtL wtSymbol ss + wtL wtRule rs := rfl
 have e1 : wtL wtSymbol ss ≤ ss.length * (1 + 400) := wtL_le _ _ (fun s hs => symOK_wt (h2 s hs))
 have e2 : wtL wtRule rs ≤ rs.length * (1 + 31000) := wtL_le _ _ h4
 have e3 : ss.length * (1 + 400) ≤ 3 * (1 + 400) := Nat.mul_le_mul_right _ h1
 have e4 : rs.length * (1 + 31000) ≤ 8 * (1 + 31000) := Nat.mul_le_mul_right _ h3
 omega
def GramOK (g : GGrammar d) : Prop := 1 ≤ g.1.length ∧ g.1.length ≤ 3 ∧ (∀ s ∈ g.1, SymOT s ∧ s.1.size ≤ 64) ∧ g.2.length ≤ 8 ∧ ∀ r ∈ g.2, r.1.size ≤ 68 ∧ r.2.1.size ≤ 64 ∧ r.2.2.1.length ≤ 3 ∧ (∀ s ∈ r.2.2.1, s.size ≤ 64) ∧ wtEquationS r.2.2.2.2.1 ≤ 30000 ∧ r.2.2.2.2.2 = []
def GramAt (d b : Nat) (w : World) (e : Ending) (w' : World) : Prop :=
 ∃ (cg : Array Value) (fq : List Nat) (g : GGrammar d), e = .returned (.agg cg) ∧ Rd.rd fq w' cg.toList g ∧ GramOK g ∧ (∀ c ∈ fq, w.heap.size ≤ c) ∧ CurR w' b ∧ Wr [b] w w'
theorem Try.infoSymC : (Try.prog.info? 133).map (fun i => (i.zero, i.size, i.bytes)) = some (some (.agg #[.string ByteArray.empty, .slice none 0 0]), 2, 40) := by kernel_rfl
theorem Try.infoRulC : (Try.prog.info? 138).map (fun i => (i.zero, i.size, i.bytes)) = some (some (.agg #[.string ByteArray.empty, .string ByteArray.empty, .slice none 0 0, .bool false, .slice none 0 0, .slice none 0 0]), 6, 112) := by kernel_rfl

set_option maxRecDepth 100000 in
set_option maxHeartbeats 16000000 in
theorem l10Draw_any (hd : 2 ≤ d) (hdd : d ≤ 1000) (b : Nat) (w : World) (h : CurR w b) :
  Calls Try.prog 78 #[.pointer (some ⟨b, 0, none⟩), .bool true] w (GramAt d b w) := by
 obtain ⟨iS, hi, hz0, hz1, hz2⟩ := info_parts Try.infoSymC
 have HZS := Lib.hid (And.intro hi (And.intro hz0 (And.intro hz1 hz2)))
 clear hi hz0 hz1 hz2
 obtain ⟨iR, hi, hz0, hz1, hz2⟩ := info_parts Try.infoRulC
 have HZR := Lib.hid (And.intro hi (And.intro hz0 (And.intro hz1 hz2)))
 clear hi hz0 hz1 hz2
 obtain ⟨iT, hi, hz0, hz1, hz2⟩ := info_parts Try.infoStrC
 have HZT := Lib.hid (And.intro hi (And.intro hz0 (And.intro hz1 hz2)))
 clear hi hz0 hz1 hz2
 obtain ⟨E, hE0, hEg⟩ : ∃ E : World, E.heap.size = 0 ∧ Gr E w := ⟨w.first 0, size_first (by omega), gr_first (by omega)⟩
 have HC := Lib.hid h
 have hbl := h.lt
 clear h
 go_enter Try.func78, Try.ntmps78
 go_wp2_with fail
 refine (l1Below_any b 3 _ (HC.out.gr gd) (by omega) (by omega)).mono ?_
 rintro e W1 ⟨x5, rfl, hx0, hx1, hc1, hw1⟩
 have hs1 := hw1.size
 simp at hs1
 have vr1 : VRow W1 w.heap.size 114 [.slice none 0 0, .slice none 0 0] := (((VRow.new (A := w) rfl).gr gd).wr hw1 (by simp; omega))
 have vg1 : VRow W1 (w.heap.size + 1) 114 [.slice none 0 0, .slice none 0 0] := ((VRow.new (A := w.alloc (.cells #[.slice none 0 0, .slice none 0 0] 114)) (by simp)).wr hw1 (by simp; omega))
 have HW1 := Lib.hid (((Gr.alloc (Gr.refl w) _).alloc _).toWr [b] |>.trans hw1)
 have VR1 := Lib.hid vr1
 have VG1 := Lib.hid vg1
 have HC1 := Lib.hid hc1
 clear hw1 vr1 vg1 hc1
 obtain ⟨m, rfl⟩ : ∃ m : Nat, x5 = m := ⟨x5.toNat, by omega⟩
 have iwn : IntKind.i64.wrap (1 + (m : Int)) = 1 + (m : Int) := IntWalk.i64_in _ (by omega)
 have n0 : (0 : Int) ≤ 1 + (m : Int) := by omega
 have n3 : 1 + (m : Int) ≤ 3 := by omega
 have nt : (1 + (m : Int)).toNat = m + 1 := by omega
 go_upto_region 4 with fail
 obtain ⟨fl, hl1, hl2⟩ := SlR.litS 9 (w := W1) (g := W1.heap.size) (n := 3) rfl [⟨#[115]⟩, ⟨#[116]⟩, ⟨#[117]⟩] rfl (cs := #[.string ⟨#[115]⟩, .string ⟨#[116]⟩, .string ⟨#[117]⟩]) rfl (by decide) (by decide)
 obtain ⟨fn, hn1, hn2⟩ := hl1.takeS (k := m + 1) (by show m + 1 ≤ 3; omega)
 have hn3 := hn1.lt
 obtain ⟨nms, hnms⟩ : ∃ nms, nms = List.take (m + 1) ([⟨#[115]⟩, ⟨#[116]⟩, ⟨#[117]⟩] : List ByteArray) := ⟨_, rfl⟩
 rw [← hnms] at hn1
 have hnl : nms.length = m + 1 := by rw [hnms, List.length_take]; show min (m + 1) 3 = m + 1; omega
 have hnz : ∀ x ∈ nms, x.size ≤ 64 := fun x hx => by
  rw [hnms] at hx
  exact (show ∀ x ∈ ([⟨#[115]⟩, ⟨#[116]⟩, ⟨#[117]⟩] : List ByteArray), x.size ≤ 64 by decide) x (List.mem_of_mem_take hx)
 generalize hB : W1.alloc (.cells #[.string ⟨#[115]⟩, .string ⟨#[116]⟩, .string ⟨#[117]⟩] 9) = B at *
 have g1B : Gr W1 B := by rw [← hB]; exact gd
 have HVN := Lib.hid (show VRow B W1.heap.size 9 [.string ⟨#[115]⟩, .string ⟨#[116]⟩, .string ⟨#[117]⟩] by rw [← hB]; exact VRow.new rfl)
 have hsB : B.heap.size = W1.heap.size + 1 := by rw [← hB]; simp
 clear hB hnms
 have HVR := Lib.hid (VR1.out.gr g1B)
 have HVG := Lib.hid (VG1.out.gr g1B)
 have HCB := Lib.hid (HC1.out.gr g1B)
 have HWB := Lib.hid (HW1.out.gr g1B)
 have HNS := Lib.hid hn1
 have HNZ := Lib.hid hnz
 have HFN := Lib.hid (show ∀ c ∈ fn, W1.heap.size ≤ c ∧ c < B.heap.size from fun c hc => ⟨hl2 c (hn2 c hc), hn3 c hc⟩)
 have HEB := Lib.hid (show Gr E B from hEg.wr HWB.out (fun c _ => by omega))
 clear hl1 hl2 hn1 hn2 hn3 hnz VR1 VG1 HC1 HW1 g1B
 go_wp2_with fail
 go_loopw [8] (fun s8 wr => ∃ k : Nat, k ≤ m + 1 ∧ SymsIn b B (w.heap.size + 1) k wr ∧ s8 = .int .i64 k) (fun s8 _ => m + 1 - (intOf s8).toNat)
 case atStart => exact ⟨0, by omega, ⟨_, [], [], OwnR.nil _ _ _, by simp, rfl, by simp, HVG.out, HCB.out, Wr.refl _ _⟩, rfl⟩
 case round =>
  obtain ⟨k, hk, ⟨vs, fs, ss, hown, hff, hsl, hsok, hvg, hc, hw⟩, rfl⟩ := hrel
  rename World => W2
  obtain ⟨va, vc, hform⟩ := hown.form
  rw [hsl] at hform
  subst hform
  have HO := Lib.hid hown
  have HFF := Lib.hid hff
  have HSK := Lib.hid hsok
  have HVG2 := Lib.hid hvg
  have HC2 := Lib.hid hc
  have HW2 := Lib.hid hw
  have hs2 := hw.size
  have HVN2 := Lib.hid (HVN.out.wr hw (by simp; omega))
  clear hown hff hsok hvg hc hw
  by_cases hlt : k < m + 1
  ·have k0 : (0 : Int) ≤ (k : Int) := by omega
   have k1 : (k : Int) < 1 + (m : Int) := by omega
   have k3 : (k : Int) < (m : Int) + 1 := by omega
   have iwk : IntKind.i64.wrap ((k : Int) + 1) = (k : Int) + 1 := IntWalk.i64_in _ (by omega)
   obtain ⟨q, hq, hcell⟩ : ∃ q : ByteArray, q.size ≤ 64 ∧ W2.cell? ⟨W1.heap.size, k, none⟩ = some (.string q) := by
    rcases (show k = 0 ∨ k = 1 ∨ k = 2 by omega) with rfl | rfl | rfl
    ·exact ⟨_, by decide, HVN2.out.cell (k := 0) (by simp)⟩
    ·exact ⟨_, by decide, HVN2.out.cell (k := 1) (by simp)⟩
    ·exact ⟨_, by decide, HVN2.out.cell (k := 2) (by simp)⟩
   have y0 := HVG2.out.cell (k := 0) (by simp)
   have fy0 := HVG2.out.frozen 0
   have zy0 := blk y0
   have zc := blk hcell
   obtain ⟨OWN, hOWN⟩ : ∃ l, l = (Value.slice va k vc).ownBlock.toList := ⟨_, rfl⟩
   have hown0 : ∀ c ∈ OWN, B.heap.size ≤ c ∧ c < W2.heap.size := fun c hc => by rw [hOWN] at hc; exact HO.out.base c (by simpa using hc)
   have HOWN := Lib.hid hOWN
   have HOB := Lib.hid hown0
   have HNO1 := Lib.hid (show w.heap.size + 1 ∉ b :: OWN from fun hm => by
    rcases List.mem_cons.1 hm with h | h
    ·omega
    ·have := (hown0 _ h).1; omega)
   have HNO2 := Lib.hid (show W1.heap.size ∉ b :: OWN from fun hm => by
    rcases List.mem_cons.1 hm with h | h
    ·omega
    ·have := (hown0 _ h).1; omega)
   clear hOWN hown0
   have kk0 := fun (w' : World) (h : Wr (b :: OWN) W2 w') => h.keepC y0 HNO1.out
   have kk1 := fun (w' : World) (h : Wr (b :: OWN) W2 w') => h.keepC hcell HNO2.out
   go_wp2_with fail
   refine wp_region_U (fun w' => Wr (b :: OWN) W2 w') 14 (by kernel_rfl) ((gd : Gr W2 W2.drew).toWr (b :: OWN)) (fun hU => ?_)
   refine anyU_q 0 ?_
   try simp only [Act.put, uq1, uq2, uq3]
   refine anyU_q 2 ?_
   try simp only [Act.put, uq1, uq2, uq3]
   refine anyU_q 3 ?_
   try simp only [Act.put, uq1, uq2, uq3]
   refine anyU_q 4 ?_
   try simp only [Act.put, uq1, uq2, uq3]
   refine anyU_q 7 ?_
   try simp only [Act.put, uq1, uq2, uq3]
   refine anyU_q 9 ?_
   try simp only [Act.put, uq1, uq2, uq3]
   refine anyU_q 1 ?_
   try simp only [Act.put, uq1, uq2, uq3]
   refine anyU_q 5 ?_
   try simp only [Act.put, uq1, uq2, uq3]
   refine anyU_q 8 ?_
   try simp only [Act.put, uq1, uq2, uq3]
   refine anyU_q 6 ?_
   try simp only [Act.put, uq1, uq2, uq3]
   refine anyU_ready (rs := [10]) (by kernel_rfl) (by simp) ?_
   refine (ReadyU.cons rfl (fun K hK => ?_) ReadyU.nil)
   go_simp
   go_at_call 93
   refine (l8Draw_any b q _ _ (HC2.out.gr gd)).mono ?_
   rintro e W3 ⟨v3, fq, s3, rfl, hsl3, hln3, hnm3, hfq3, hc3, hw3⟩
   obtain ⟨a3, c3, rfl, -, -, -⟩ := hsl3.open
   have w23 := ((Gr.drew (Gr.refl W2)).toWr [b]).trans hw3
   have hz23 := w23.size
   have HW23 := Lib.hid w23
   have HSL3 := Lib.hid hsl3
   have HNM3 := Lib.hid (show SymOT (q, s3) ∧ q.size ≤ 64 from ⟨⟨hln3, hnm3⟩, hq⟩)
   have HFQ3 := Lib.hid (show ∀ c ∈ fq, W2.heap.size ≤ c from fun c hc => by have := hfq3 c hc; simpa using this)
   have HC3 := Lib.hid hc3
   have HVG3 := Lib.hid (HVG2.out.wr w23 (by simp; omega))
   have z31 := HVG3.out.cell (k := 0) (by simp)
   have fz31 := HVG3.out.frozen 0
   have zz31 := blk z31
   have HO3 := Lib.hid (HO.out.wr w23 (fun c hc hm => by have h1 := HFF.out c hc; have h2 := List.mem_singleton.1 hm; omega) (fun c hc hm => by have h1 := (HO.out.base c hc).1; have h2 := List.mem_singleton.1 hm; omega))
   have HAP3 := Lib.hid (show ∀ c, (Value.slice va k vc).ownBlock = some c → c ∉ [([] ++ fq : List Nat)].flatten from fun c hc hm => by
    have h1 := (HO.out.base c hc).2
    have h2 := HFQ3.out c (by simpa using hm)
    omega)
   have HNO4 := Lib.hid (show w.heap.size + 1 ∉ OWN from fun hm => HNO1.out (List.mem_cons_of_mem _ hm))
   refine hK.out _ _ (w23.sub (fun c hc => by rw [List.mem_singleton.1 hc]; simp)) (fun hU1 => ?_)
   clear hK K hsl3 hln3 hnm3 hfq3 hc3 hw3 w23
   try simp only [Act.put, uq1, uq2, uq3]
   refine anyU_ready (rs := [11]) (by kernel_rfl) (by simp) ?_
   refine (ReadyU.cons rfl (fun K hK => ?_) ReadyU.nil)
   go_simp
   refine hK.out _ _ ((HW23.out.gr gd).sub (fun c hc => by rw [List.mem_singleton.1 hc]; simp)) (fun hU3 => ?_)
   clear hK K
   try simp only [Act.put, uq1, uq2, uq3]
   refine anyU_ready (rs := [12]) (by kernel_rfl) (by simp) ?_
   refine (ReadyU.cons rfl (fun K hK => ?_) ReadyU.nil)
   refine step_append_RB (α := GSymbol) (wg := E) (w0 := B) (HEB.out.wr (HW2.out.more2 HW23.out (fun x hx => .inl (by rw [List.mem_singleton.1 hx]; simp))) (fun c _ => by omega) |>.trans gd) (by omega) (by simp; omega) (by rfl) _ _ _ (by rfl) 133 iS (.agg #[.string ByteArray.empty, .slice none 0 0]) 40 Try.underlying111 HZS.out.1 HZS.out.2.1 HZS.out.2.2.1 HZS.out.2.2.2 rfl (.slice va k vc) fs ss (by rfl) (HO3.out.gr gd) _ [([] ++ fq : List Nat)] [(q, s3)] (by rfl) (SrcR.one (w := W3) (by simp) (rdSymbol_mk q s3 (by unfold maxLen; omega) (SlR.gr HSL3.out gd))) HAP3.out (by unfold maxLen; simp; omega) (by simp; omega) ?_
   intro v4 w4 h1 h2 h3 h4
   obtain ⟨va4, vc4, hv4⟩ := h1.form
   rw [show (ss ++ [((q, s3) : GSymbol)]).length = k + 1 from by simp [hsl]] at hv4
   subst hv4
   have K1 := Lib.hid h1
   have k2 := ((Gr.toWr (show Gr W3 (W3.alloc (.cells #[.string q, .slice a3 s3.length c3] 133)) from gd) _).trans h2)
   have K3 := Lib.hid (show ∀ c ∈ (Value.slice va4 (k + 1) vc4).ownBlock.toList, c ∈ OWN ∨ W3.heap.size ≤ c from fun c hc => h3.elim (fun e => .inl (by rw [e] at hc; rw [HOWN.out]; exact hc)) (fun e => .inr (by rw [e] at hc; simp at hc; omega)))
   rw [← HOWN.out] at k2
   have z9 := k2.size
   have v31 := k2.keepC z31 HNO4.out
   have zv31 := blk v31
   have fv31 := k2.frozenC fz31 zz31 HNO4.out
   have K2 := Lib.hid k2
   refine hK.out _ _ ((HW23.out.sub (fun c hc => by rw [List.mem_singleton.1 hc]; simp)).trans (k2.sub (fun c hc => List.mem_cons_of_mem _ hc))) (fun hU4 => ?_)
   clear h1 h2 h3 h4 k2
   clear hK K
   try simp only [Act.put, uq1, uq2, uq3]
   refine anyU_q 13 ?_
   try simp only [Act.put, uq1, uq2, uq3]
   refine anyU_ready (rs := [14]) (by kernel_rfl) (by simp) ?_
   refine ReadyU.last rfl (fun K hK => ?_)
   go_simp
   refine hK.out _ _ ?_
   clear hK K
   try simp only [Act.put, uq1, uq2, uq3]
   refine anyU_done (by kernel_rfl) ?_ _
   go_wp2_with fail
   have hvo : ∀ c ∈ (Value.slice va4 (k + 1) vc4).ownBlock.toList, B.heap.size ≤ c := fun c hc => by
    rcases K3.out c hc with h | h
    ·exact (HOB.out c h).1
    ·omega
   have wst : Wr [w.heap.size + 1] w4 (w4.setCell ⟨w.heap.size + 1, 0, none⟩ (.slice va4 (k + 1) vc4)) := Wr.setCell (Wr.refl [w.heap.size + 1] w4) (List.mem_singleton.2 rfl) _
   have hfs : ∀ c ∈ (fs ++ [([] ++ fq : List Nat)]).flatten, B.heap.size ≤ c := fun c hc => by
    rw [List.flatten_append] at hc
    rcases List.mem_append.1 hc with h | h
    ·exact HFF.out c h
    ·have := HFQ3.out c (by simpa using h); omega
   refine ⟨⟨k + 1, by omega, ⟨_, fs ++ [([] ++ fq : List Nat)], ss ++ [(q, s3)], K1.out.wr wst (fun c hc hm => by have h1 := hfs c hc; have h2 := List.mem_singleton.1 hm; omega) (fun c hc hm => by have h1 := hvo c (by simpa using hc); have h2 := List.mem_singleton.1 hm; omega), hfs, by simp [hsl], fun s hs => ?_, (HVG3.out.wr K2.out HNO4.out).set 0 _, (HC3.out.wr K2.out (fun x hx => by have := (HOB.out x hx).1; omega)).wr wst (fun x hx => by rw [List.mem_singleton.1 hx]; omega), ((HW2.out.more2 HW23.out (fun x hx => .inl (by rw [List.mem_singleton.1 hx]; simp))).more2 K2.out (fun x hx => .inr (HOB.out x hx).1)).more2 wst (fun x hx => .inl (by rw [List.mem_singleton.1 hx]; simp))⟩, by go_num⟩, by simp [intOf]; omega⟩
   rcases List.mem_append.1 hs with h | h
   ·exact HSK.out s h
   ·rw [List.mem_singleton.1 h]; exact HNM3.out
  ·obtain rfl : k = m + 1 := by omega
   have k1 : ¬ (((m + 1 : Nat) : Int)) < 1 + (m : Int) := by omega
   obtain ⟨f1, hs1f, hf1⟩ := HO.out.slR (by unfold reachLen; omega)
   have HF1 := Lib.hid (show ∀ c ∈ f1, B.heap.size ≤ c ∧ c < W2.heap.size from fun c hc => by
    refine ⟨?_, hs1f.lt c hc⟩
    rcases hf1 with ⟨-, rfl⟩ | ⟨z, hz, rfl⟩
    ·cases hc
    ·rcases List.mem_cons.1 hc with h | h
     ·rw [h]; exact (HO.out.base z hz).1
     ·exact HFF.out c h)
   have HS1 := Lib.hid hs1f
   clear hs1f hf1
   go_wp2_with fail
   go_loopw [9] (fun s9 wr => ∃ i : Nat, i ≤ m + 1 ∧ RulesIn d b W2 (w.heap.size + 1) (.slice va (m + 1) vc) (3 * i) wr ∧ s9 = .int .i64 i) (fun s9 _ => m + 1 - (intOf s9).toNat)
   case atStart => exact ⟨0, by omega, ⟨_, [], [], OwnR.nil _ _ _, by simp, by simp, by simp, HVG2.out, HC2.out, Wr.refl _ _⟩, rfl⟩
   case round =>
    obtain ⟨i, hi, ⟨vr, fr, rs, hown, hff, hrl, hrok, hvg, hc, hw⟩, rfl⟩ := hrel
    rename World => W3
    obtain ⟨vra, vrc, hform⟩ := hown.form
    subst hform
    have HRO := Lib.hid hown
    have HRF := Lib.hid hff
    have HRK := Lib.hid hrok
    have HVG3 := Lib.hid hvg
    have HC3 := Lib.hid hc
    have HW3 := Lib.hid hw
    have hs3 := hw.size
    have hsl2 : W1.heap.size < W2.heap.size := by omega
    have HVN3 := Lib.hid (HVN2.out.wr hw (by simp; omega))
    clear hown hff hrok hvg hc hw
    by_cases hlt : i < m + 1
    ·have i0 : (0 : Int) ≤ (i : Int) := by omega
     have i1 : (i : Int) < 1 + (m : Int) := by omega
     have i3 : (i : Int) < (m : Int) + 1 := by omega
     have i4 : (i : Int) < ((m + 1 : Nat) : Int) := by omega
     have iwi : IntKind.i64.wrap ((i : Int) + 1) = (i : Int) + 1 := IntWalk.i64_in _ (by omega)
     obtain ⟨q, hq, hcell⟩ : ∃ q : ByteArray, q.size ≤ 64 ∧ W3.cell? ⟨W1.heap.size, i, none⟩ = some (.string q) := by
      rcases (show i = 0 ∨ i = 1 ∨ i = 2 by omega) with rfl | rfl | rfl
      ·exact ⟨_, by decide, HVN3.out.cell (k := 0) (by simp)⟩
      ·exact ⟨_, by decide, HVN3.out.cell (k := 1) (by simp)⟩
      ·exact ⟨_, by decide, HVN3.out.cell (k := 2) (by simp)⟩
     have y0 := HVG3.out.cell (k := 1) (by simp)
     have fy0 := HVG3.out.frozen 1
     have zy0 := blk y0
     have zc := blk hcell
     obtain ⟨OWN, hOWN⟩ : ∃ l, l = (Value.slice vra rs.length vrc).ownBlock.toList := ⟨_, rfl⟩
     have hown0 : ∀ c ∈ OWN, W2.heap.size ≤ c ∧ c < W3.heap.size := fun c hc => by rw [hOWN] at hc; exact HRO.out.base c (by simpa using hc)
     have HOWN := Lib.hid hOWN
     have HOB := Lib.hid hown0
     have HNO1 := Lib.hid (show w.heap.size + 1 ∉ b :: OWN from fun hm => by
      rcases List.mem_cons.1 hm with h | h
      ·omega
      ·have := (hown0 _ h).1; omega)
     have HNO2 := Lib.hid (show W1.heap.size ∉ b :: OWN from fun hm => by
      rcases List.mem_cons.1 hm with h | h
      ·omega
      ·have := (hown0 _ h).1; omega)
     clear hOWN hown0
     have kk0 := fun (w' : World) (h : Wr (b :: OWN) W3 w') => h.keepC y0 HNO1.out
     have kk1 := fun (w' : World) (h : Wr (b :: OWN) W3 w') => h.keepC hcell HNO2.out
     have hcat : ¬ (9223372036854775807 < 4 + q.size) := by omega
     go_wp2_with fail
     refine wp_region_U (fun w' => Wr (b :: OWN) W3 w') 18 (by kernel_rfl) ((gd : Gr W3 W3.drew).toWr (b :: OWN)) (fun hU => ?_)
     refine anyU_q 0 ?_
     try simp only [Act.put, uq1, uq2, uq3]
     refine anyU_q 2 ?_
     try simp only [Act.put, uq1, uq2, uq3]
     refine anyU_q 3 ?_
     try simp only [Act.put, uq1, uq2, uq3]
     refine anyU_q 7 ?_
     try simp only [Act.put, uq1, uq2, uq3]
     refine anyU_q 8 ?_
     try simp only [Act.put, uq1, uq2, uq3]
     refine anyU_q 11 ?_
     try simp only [Act.put, uq1, uq2, uq3]
     refine anyU_q 1 ?_
     try simp only [Act.put, uq1, uq2, uq3]
     refine anyU_q 4 ?_
     try simp only [Act.put, uq1, uq2, uq3]
     refine anyU_q 9 ?_
     try simp only [Act.put, uq1, uq2, uq3]
     refine anyU_q 5 ?_
     try simp only [Act.put, uq1, uq2, uq3]
     refine anyU_q 10 ?_
     try simp only [Act.put, uq1, uq2, uq3]
     refine anyU_q 6 ?_
     try simp only [Act.put, uq1, uq2, uq3]
     refine anyU_ready (rs := [12]) (by kernel_rfl) (by simp) ?_
     refine (ReadyU.cons rfl (fun K hK => ?_) ReadyU.nil)
     go_simp
     go_at_call 48
     refine (l1Once_any b 3 _ (HC3.out.gr gd) (by omega) (by omega)).mono ?_
     rintro e W4 ⟨x4, rfl, hc4, hw4⟩
     have w34 := ((Gr.drew (Gr.refl W3)).toWr [b]).trans hw4
     have hz34 := w34.size
     have HW34 := Lib.hid w34
     have HC4 := Lib.hid hc4
     have HVG4 := Lib.hid (HVG3.out.wr w34 (by simp; omega))
     have z41 := HVG4.out.cell (k := 1) (by simp)
     have fz41 := HVG4.out.frozen 1
     have zz41 := blk z41
     have HRO4 := Lib.hid (HRO.out.wr w34 (fun c hc hm => by have h1 := HRF.out c hc; have h2 := List.mem_singleton.1 hm; omega) (fun c hc hm => by have h1 := (HRO.out.base c hc).1; have h2 := List.mem_singleton.1 hm; omega))
     have HNO4 := Lib.hid (show w.heap.size + 1 ∉ OWN from fun hm => HNO1.out (List.mem_cons_of_mem _ hm))
     refine hK.out _ _ (w34.sub (fun c hc => by rw [List.mem_singleton.1 hc]; simp)) (fun hU1 => ?_)
     clear hK K hc4 hw4 w34
     try simp only [Act.put, uq1, uq2, uq3]
     refine anyU_q 13 ?_
     try simp only [Act.put, uq1, uq2, uq3]
     refine anyU_q 14 ?_
     try simp only [Act.put, uq1, uq2, uq3]
     refine anyU_ready (rs := [15]) (by kernel_rfl) (by simp) ?_
     refine (ReadyU.cons rfl (fun K hK => ?_) ReadyU.nil)
     go_simp
     refine hK.out _ _ ((HW34.out.gr gd).sub (fun c hc => by rw [List.mem_singleton.1 hc]; simp)) (fun hU3 => ?_)
     clear hK K
     try simp only [Act.put, uq1, uq2, uq3]
     refine anyU_ready (rs := [16]) (by kernel_rfl) (by simp) ?_
     refine (ReadyU.cons rfl (fun K hK => ?_) ReadyU.nil)
     have hcs : ((⟨#[108, 101, 97, 102]⟩ ++ q) : ByteArray).size ≤ 68 := by rw [ByteArray.size_append]; show 4 + q.size ≤ 68; omega
     have hrd : Rd.rd _ (W4.alloc (.cells #[.string (⟨#[108, 101, 97, 102]⟩ ++ q), .string q, .slice none 0 0, .bool (!x4), .slice none 0 0, .slice none 0 0] 138)) (#[.string (⟨#[108, 101, 97, 102]⟩ ++ q), .string q, .slice none 0 0, .bool (!x4), .slice none 0 0, .slice none 0 0] : Array Value).toList (⟨(((⟨#[108, 101, 97, 102]⟩ ++ q) : ByteArray), q, [], !x4, [], []), true⟩ : RuleM d) := ⟨rdRule_mk (d := d) (⟨#[108, 101, 97, 102]⟩ ++ q) q [] (!x4) [] [] (by unfold maxLen; omega) (by unfold maxLen; omega) (SlR.nil _) (SlR.nil _) (SlR.nil _), fun _ => ⟨rfl, rfl, none, 0, rfl⟩⟩
     have HOKR := Lib.hid (show RuleOK (⟨(((⟨#[108, 101, 97, 102]⟩ ++ q) : ByteArray), q, [], !x4, [], []), true⟩ : RuleM d) from ⟨by show ((⟨#[108, 101, 97, 102]⟩ ++ q) : ByteArray).size ≤ 68; exact hcs, hq, by show 0 ≤ 3; omega, by simp, by show wtL wtEquation ([] : List (GEquation d)) ≤ 30000; simp [wtL], rfl⟩)
     refine step_append_RB (α := RuleM d) (wg := E) (w0 := W2) (HEB.out.wr ((HW2.out.trans HW3.out).more2 HW34.out (fun x hx => .inl (by rw [List.mem_singleton.1 hx]; simp))) (fun c _ => by omega) |>.trans gd) (by omega) (by simp; omega) (by rfl) _ _ _ (by rfl) 138 iR (.agg #[.string ByteArray.empty, .string ByteArray.empty, .slice none 0 0, .bool false, .slice none 0 0, .slice none 0 0]) 112 Try.underlying112 HZR.out.1 HZR.out.2.1 HZR.out.2.2.1 HZR.out.2.2.2 rfl (.slice vra rs.length vrc) fr rs (by rfl) (HRO4.out.gr gd) _ [_] [(⟨(((⟨#[108, 101, 97, 102]⟩ ++ q) : ByteArray), q, [], !x4, [], []), true⟩ : RuleM d)] (by rfl) (SrcR.one (w := W4) (by simp) hrd) (fun c _ => by simp) (by unfold maxLen; simp; omega) (by simp; omega) ?_
     intro v5 w5 h1 h2 h3 h4
     obtain ⟨va5, vc5, hv5⟩ := h1.form
     rw [show (rs ++ [(⟨(((⟨#[108, 101, 97, 102]⟩ ++ q) : ByteArray), q, [], !x4, [], []), true⟩ : RuleM d)]).length = rs.length + 1 from by simp] at hv5
     subst hv5
     have K1 := Lib.hid h1
     have k2 := ((Gr.toWr (show Gr W4 (W4.alloc (.cells #[.string (⟨#[108, 101, 97, 102]⟩ ++ q), .string q, .slice none 0 0, .bool (!x4), .slice none 0 0, .slice none 0 0] 138)) from gd) _).trans h2)
     have K3 := Lib.hid (show ∀ c ∈ (Value.slice va5 (rs.length + 1) vc5).ownBlock.toList, c ∈ OWN ∨ W4.heap.size ≤ c from fun c hc => h3.elim (fun e => .inl (by rw [e] at hc; rw [HOWN.out]; exact hc)) (fun e => .inr (by rw [e] at hc; simp at hc; omega)))
     rw [← HOWN.out] at k2
     have z9 := k2.size
     have v51 := k2.keepC z41 HNO4.out
     have zv51 := blk v51
     have fv51 := k2.frozenC fz41 zz41 HNO4.out
     have K2 := Lib.hid k2
     refine hK.out _ _ ((HW34.out.sub (fun c hc => by rw [List.mem_singleton.1 hc]; simp)).trans (k2.sub (fun c hc => List.mem_cons_of_mem _ hc))) (fun hU4 => ?_)
     clear h1 h2 h3 h4 k2
     clear hK K
     try simp only [Act.put, uq1, uq2, uq3]
     refine anyU_q 17 ?_
     try simp only [Act.put, uq1, uq2, uq3]
     refine anyU_ready (rs := [18]) (by kernel_rfl) (by simp) ?_
     refine ReadyU.last rfl (fun K hK => ?_)
     go_simp
     refine hK.out _ _ ?_
     clear hK K
     try simp only [Act.put, uq1, uq2, uq3]
     refine anyU_done (by kernel_rfl) ?_ _
     skip
     have HR6 := Lib.hid (RulesIn.push (G := w.heap.size + 1) (K := 3 * i) K1.out HRF.out (by simp) hrl HRK.out ⟨HOKR.out, rfl⟩ (HVG4.out.wr K2.out HNO4.out) (HC4.out.wr K2.out (fun x hx => by have := (HOB.out x hx).1; omega)) ((HW3.out.trans (HW34.out.sub (fun c hc => by rw [List.mem_singleton.1 hc]; simp))).more2 K2.out (fun x hx => .inr (HOB.out x hx).1)) (by omega) (by omega))
     generalize hW6 : w5.setCell ⟨w.heap.size + 1, 1, none⟩ (.slice va5 (rs.length + 1) vc5) = W6 at *
     have hz36 : W3.heap.size ≤ W6.heap.size := by rw [← hW6]; simp; omega
     clear hW6 K1 K2 K3 HC4 HVG4 HRO4 HW34 HOKR z41 fz41 zz41 v51 zv51 fv51 z9 y0 fy0 zy0 zc hcell kk0 kk1 HRO HRF HRK HVG3 HC3 HOB
     go_upto_region 12 with fail
     have hc6 : CurR W6 b := by obtain ⟨_, _, _, _, _, _, _, _, h, _⟩ := HR6.out; exact h
     go_wp2_with fail
     refine (l1Below_any b 2 _ hc6 (by omega) (by omega)).mono ?_
     rintro e W7 ⟨x7, rfl, hx70, hx71, hc7, hw7⟩
     have HR7 := Lib.hid (RulesIn.wr HR6.out (by omega) (by omega) hc7 hw7)
     have hz67 := hw7.size
     clear hc7 hw7 hc6 HR6
     obtain ⟨m2, rfl⟩ : ∃ m2 : Nat, x7 = m2 := ⟨x7.toNat, by omega⟩
     have iwm2 : IntKind.i64.wrap (1 + (m2 : Int)) = 1 + (m2 : Int) := IntWalk.i64_in _ (by omega)
     go_wp2_with fail
     go_loopw [11] (fun s11 wr => ∃ j : Nat, j ≤ m2 + 1 ∧ RulesIn d b W2 (w.heap.size + 1) (.slice va (m + 1) vc) (3 * i + 1 + j) wr ∧ s11 = .int .i64 j) (fun s11 _ => m2 + 1 - (intOf s11).toNat)
     case atStart => exact ⟨0, by omega, HR7.out, rfl⟩
     case round =>
      obtain ⟨j, hj, hR8, rfl⟩ := hrel
      rename World => W8
      have HR8 := Lib.hid hR8
      by_cases hlj : j < m2 + 1
      ·obtain ⟨-, -, -, -, -, -, -, -, hc8, hw8⟩ := hR8
       have j0 : (0 : Int) ≤ (j : Int) := by omega
       have j1 : (j : Int) < 1 + (m2 : Int) := by omega
       have iwj : IntKind.i64.wrap ((j : Int) + 1) = (j : Int) + 1 := IntWalk.i64_in _ (by omega)
       have hs8 := hw8.size
       have HC8 := Lib.hid hc8
       have hbl8 := hc8.lt
       have HVN8 := Lib.hid (HVN2.out.wr hw8 (by simp; omega))
       obtain ⟨q, hq, hcell8⟩ : ∃ q : ByteArray, q.size ≤ 64 ∧ W8.cell? ⟨W1.heap.size, i, none⟩ = some (.string q) := by
        rcases (show i = 0 ∨ i = 1 ∨ i = 2 by omega) with rfl | rfl | rfl
        ·exact ⟨_, by decide, HVN8.out.cell (k := 0) (by simp)⟩
        ·exact ⟨_, by decide, HVN8.out.cell (k := 1) (by simp)⟩
        ·exact ⟨_, by decide, HVN8.out.cell (k := 2) (by simp)⟩
       have HWR8 := Lib.hid hw8
       clear hc8 hw8
       go_upto_region 16 with fail
       refine wp_region_I (CurS b W8) (RuV b W1.heap.size i m q j W8) 16 [73, 74, 75, 76, 77, 78, 79, 80, 81, 82, 83, 84, 85, 86, 87, 12] (by kernel_rfl) (by kernel_rfl) (by kernel_rfl) ⟨HC8.out.gr (Gr.drew (Gr.refl _)), (Gr.drew (Gr.refl W8)).toWr [b]⟩ ?_ ?_
       ·refine ⟨?_, ?_, ?_, ?_, ?_, ?_, ?_, ?_, ?_, ?_, ?_, ?_, ?_, ?_, ?_, ?_, ?_, trivial⟩
        all_goals intro f a w' hf hS hfr hV K hK
        ·obtain rfl := hf (.inr (by kernel_rfl))
         have e7 : a.tmps[7]?.getD undef = .slice (some ⟨W1.heap.size, 0, none⟩) (m + 1) 3 := hfr 7 (by kernel_rfl)
         go_simp
         refine hK.out _ _ hS (fun d h => h.keep (Wr.refl [b] w') hbl8) (fun d hd => ?_)
         obtain rfl := Option.some.inj hd
         exact rfl
        ·obtain rfl := hf (.inr (by kernel_rfl))
         have e9 : a.tmps[9]?.getD undef = .int .i64 (i : Int) := hfr 9 (by kernel_rfl)
         go_simp
         refine hK.out _ _ hS (fun d h => h.keep (Wr.refl [b] w') hbl8) (fun d hd => ?_)
         obtain rfl := Option.some.inj hd
         exact rfl
        ·obtain rfl := hf (.inr (by kernel_rfl))
         have e73 : a.tmps[73]?.getD undef = .slice (some ⟨W1.heap.size, 0, none⟩) (m + 1) 3 := hV 73 (by kernel_rfl)
         have e74 : a.tmps[74]?.getD undef = .int .i64 (i : Int) := hV 74 (by kernel_rfl)
         go_simp
         refine hK.out _ _ hS (fun d h => h.keep (Wr.refl [b] w') hbl8) (fun d hd => ?_)
         obtain rfl := Option.some.inj hd
         exact rfl
        ·obtain rfl := hf (.inr (by kernel_rfl))
         have e75 : a.tmps[75]?.getD undef = .pointer (some ⟨W1.heap.size, i, none⟩) := hV 75 (by kernel_rfl)
         have hcell := hS.2.keepC hcell8 (by simp; omega)
         have zc := blk hcell
         go_simp
         refine hK.out _ _ hS (fun d h => h.keep (Wr.refl [b] w') hbl8) (fun d hd => ?_)
         obtain rfl := Option.some.inj hd
         exact rfl
        ·obtain rfl := hf (.inr (by kernel_rfl))
         have e76 : a.tmps[76]?.getD undef = .string q := hV 76 (by kernel_rfl)
         have hcat : ¬ (9223372036854775807 < 1 + q.size) := by omega
         go_simp
         refine hK.out _ _ hS (fun d h => h.keep (Wr.refl [b] w') hbl8) (fun d hd => ?_)
         obtain rfl := Option.some.inj hd
         exact ⟨_, rfl, by rw [ByteArray.size_append]; show 1 + q.size ≤ 66; omega⟩
        ·obtain rfl := hf (.inr (by kernel_rfl))
         have e11 : a.tmps[11]?.getD undef = .int .i64 (j : Int) := hfr 11 (by kernel_rfl)
         go_simp
         refine hK.out _ _ hS (fun d h => h.keep (Wr.refl [b] w') hbl8) (fun d hd => ?_)
         obtain rfl := Option.some.inj hd
         exact rfl
        ·obtain rfl := hf (.inr (by kernel_rfl))
         have e78 : a.tmps[78]?.getD undef = .int .i64 (j : Int) := hV 78 (by kernel_rfl)
         have hCL := Lib.hid (formatInt_some j (by omega) w')
         go_simp
         refine hCL.out.mono ?_
         rintro e u ⟨s, rfl, hs, hg⟩
         refine hK.out _ u ⟨hS.1.gr hg, hS.2.gr hg⟩ (fun d h => h.keep (hg.toWr [b]) hbl8) (fun d hd => ?_)
         obtain rfl := Option.some.inj hd
         exact ⟨s, rfl, hs⟩
        ·obtain rfl := hf (.inr (by kernel_rfl))
         obtain ⟨s1, e77, hs1⟩ := hV 77 (by kernel_rfl)
         obtain ⟨s2, e79, hs2⟩ := hV 79 (by kernel_rfl)
         have hcat : ¬ (9223372036854775807 < s1.size + s2.size) := by omega
         go_simp
         refine hK.out _ _ hS (fun d h => h.keep (Wr.refl [b] w') hbl8) (fun d hd => ?_)
         obtain rfl := Option.some.inj hd
         exact ⟨_, rfl, by rw [ByteArray.size_append]; omega⟩
        ·obtain rfl := hf (.inr (by kernel_rfl))
         have e7 : a.tmps[7]?.getD undef = .slice (some ⟨W1.heap.size, 0, none⟩) (m + 1) 3 := hfr 7 (by kernel_rfl)
         go_simp
         refine hK.out _ _ hS (fun d h => h.keep (Wr.refl [b] w') hbl8) (fun d hd => ?_)
         obtain rfl := Option.some.inj hd
         exact rfl
        ·obtain rfl := hf (.inr (by kernel_rfl))
         have e9 : a.tmps[9]?.getD undef = .int .i64 (i : Int) := hfr 9 (by kernel_rfl)
         go_simp
         refine hK.out _ _ hS (fun d h => h.keep (Wr.refl [b] w') hbl8) (fun d hd => ?_)
         obtain rfl := Option.some.inj hd
         exact rfl
        ·obtain rfl := hf (.inr (by kernel_rfl))
         have e81 : a.tmps[81]?.getD undef = .slice (some ⟨W1.heap.size, 0, none⟩) (m + 1) 3 := hV 81 (by kernel_rfl)
         have e82 : a.tmps[82]?.getD undef = .int .i64 (i : Int) := hV 82 (by kernel_rfl)
         go_simp
         refine hK.out _ _ hS (fun d h => h.keep (Wr.refl [b] w') hbl8) (fun d hd => ?_)
         obtain rfl := Option.some.inj hd
         exact rfl
        ·obtain rfl := hf (.inr (by kernel_rfl))
         have e83 : a.tmps[83]?.getD undef = .pointer (some ⟨W1.heap.size, i, none⟩) := hV 83 (by kernel_rfl)
         have hcell := hS.2.keepC hcell8 (by simp; omega)
         have zc := blk hcell
         go_simp
         refine hK.out _ _ hS (fun d h => h.keep (Wr.refl [b] w') hbl8) (fun d hd => ?_)
         obtain rfl := Option.some.inj hd
         exact rfl
        ·obtain rfl := hf (.inr (by kernel_rfl))
         have e0 : a.tmps[0]?.getD undef = .pointer (some ⟨b, 0, none⟩) := hfr 0 (by kernel_rfl)
         go_simp
         refine hK.out _ _ hS (fun d h => h.keep (Wr.refl [b] w') hbl8) (fun d hd => ?_)
         obtain rfl := Option.some.inj hd
         exact rfl
        ·obtain rfl := hf (.inr (by kernel_rfl))
         have e85 : a.tmps[85]?.getD undef = .pointer (some ⟨b, 0, none⟩) := hV 85 (by kernel_rfl)
         have hCL := Lib.hid (l1Once_any b 4 w' hS.1 (by omega) (by omega))
         go_simp
         refine hCL.out.mono ?_
         rintro e u ⟨x, rfl, hcx, hwx⟩
         refine hK.out _ u ⟨hcx, hS.2.trans hwx⟩ (fun d h => h.keep hwx hbl8) (fun d hd => ?_)
         obtain rfl := Option.some.inj hd
         exact ⟨x, rfl⟩
        ·obtain rfl := hf (.inr (by kernel_rfl))
         obtain ⟨s1, e80, hs1⟩ := hV 80 (by kernel_rfl)
         have e84 : a.tmps[84]?.getD undef = .string q := hV 84 (by kernel_rfl)
         obtain ⟨x1, e86⟩ := hV 86 (by kernel_rfl)
         go_simp
         refine hK.out _ _ hS (fun d h => h.keep (Wr.refl [b] w') hbl8) (fun d hd => ?_)
         obtain rfl := Option.some.inj hd
         exact ⟨s1, x1, rfl, hs1⟩
        ·obtain rfl := hf (.inr (by kernel_rfl))
         go_simp
         refine hK.out _ _ ⟨hS.1.gr (Gr.alloc (Gr.refl w') _), hS.2.gr (Gr.alloc (Gr.refl w') _)⟩ (fun d h => h.keep ((Gr.alloc (Gr.refl w') _).toWr [b]) hbl8) (fun d hd => ?_)
         obtain rfl := Option.some.inj hd
         exact ⟨_, ⟨#[]⟩, ⟨#[]⟩, false, rfl, hS.2.size, VRow.new rfl, by decide, by decide⟩
        ·obtain rfl := hf (.inl rfl)
         obtain ⟨g, sz, qz, xz, h12, hgw, hgv, -, -⟩ := hV 12 (by kernel_rfl)
         obtain ⟨s1, x1, h87, hs1⟩ := hV 87 (by kernel_rfl)
         have c0 := hgv.cell (k := 0) (by simp)
         have f0 := hgv.frozen 0
         have c1 := hgv.cell (k := 1) (by simp)
         have f1 := hgv.frozen 1
         have c2 := hgv.cell (k := 2) (by simp)
         have f2 := hgv.frozen 2
         have c3 := hgv.cell (k := 3) (by simp)
         have f3 := hgv.frozen 3
         have c4 := hgv.cell (k := 4) (by simp)
         have f4 := hgv.frozen 4
         have c5 := hgv.cell (k := 5) (by simp)
         have f5 := hgv.frozen 5
         have zg := blk c0
         have HGV := Lib.hid hgv
         have HS := Lib.hid hS
         clear hgv hS
         go_simp
         generalize hU : ((((((w'.setCell ⟨g, 0, none⟩ (.string s1)).setCell ⟨g, 1, none⟩ (.string q)).setCell ⟨g, 2, none⟩ (.slice none 0 0)).setCell ⟨g, 3, none⟩ (.bool x1)).setCell ⟨g, 4, none⟩ (.slice none 0 0)).setCell ⟨g, 5, none⟩ (.slice none 0 0)) = U
         have vU : VRow U g 138 [.string s1, .string q, .slice none 0 0, .bool x1, .slice none 0 0, .slice none 0 0] := by rw [← hU]; exact VRow.put6 HGV.out _ _ _ _ _ _
         have wU : Wr [g] w' U := by rw [← hU]; exact Wr.put6 _ _ _ _ _ _ _ _
         clear hU
         refine hK.out undef U ⟨HS.out.1.wr wU (fun x hx => by rw [List.mem_singleton.1 hx]; omega), HS.out.2.more2 wU (fun x hx => .inr (by rw [List.mem_singleton.1 hx]; omega))⟩ (fun d h => ?_) (fun d hd => by cases hd)
         unfold RuV at h ⊢
         split at h <;> first
          | exact h
          | exact ⟨g, s1, q, x1, h12, hgw, vU, hs1, hq⟩
       ·intro t W9 hS hV
        obtain ⟨gr, s1, q1, x1, hg, hgw, hgv, hss, hqq⟩ := hV 12 (by kernel_rfl)
        simp only [layI, List.foldl_cons, List.foldl_nil, Act.put, List.setIfInBounds_toArray, List.set_cons_zero, List.set_cons_succ, hg]
        obtain ⟨hc9, hw9⟩ := hS
        have HGV := Lib.hid hgv
        have HC9 := Lib.hid hc9
        have HW9 := Lib.hid hw9
        have hz89 := hw9.size
        have hgl9 := hgv.lt
        clear hgv hc9 hw9 hV hg HR7
        go_wp2_with fail
        refine (l1Below_any b 3 _ HC9.out (by omega) (by omega)).mono ?_
        rintro e W10 ⟨x9, rfl, hx90, hx91, hc10, hw10⟩
        have hz910 := hw10.size
        have HGV10 := Lib.hid (HGV.out.wr hw10 (by simp; omega))
        have HC10 := Lib.hid hc10
        have HW10 := Lib.hid (HW9.out.trans hw10)
        clear hc10 hw10
        obtain ⟨m3, rfl⟩ : ∃ m3 : Nat, x9 = m3 := ⟨x9.toNat, by omega⟩
        have iwm3 : IntKind.i64.wrap (1 + (m3 : Int)) = 1 + (m3 : Int) := IntWalk.i64_in _ (by omega)
        go_wp2_with fail
        go_loopw [14] (fun s14 wr => ∃ l : Nat, l ≤ m3 + 1 ∧ RightIn b W10 gr s1 q1 x1 l wr ∧ s14 = .int .i64 l) (fun s14 _ => m3 + 1 - (intOf s14).toNat)
        case atStart => exact ⟨0, by omega, ⟨_, [], [], OwnR.nil _ _ _, rfl, rfl, by simp, HGV10.out, HC10.out, Wr.refl _ _⟩, rfl⟩
        case round =>
         obtain ⟨l, hl, ⟨v, fps, xs, hown, hff, hxl, hxz, hvr, hc, hw⟩, rfl⟩ := hrel
         rename World => W11
         obtain ⟨ra, rc, hform⟩ := hown.form
         rw [hxl] at hform
         subst hform
         have HO4 := Lib.hid hown
         have HF4 := Lib.hid hff
         have HXZ := Lib.hid hxz
         have HVR4 := Lib.hid hvr
         have HC11 := Lib.hid hc
         have HW11 := Lib.hid hw
         have hz11 := hw.size
         clear hown hff hxz hvr hc hw
         have hw811 : Wr [b] W8 W11 := HW10.out.more2 HW11.out (fun x hx => by
          rcases List.mem_cons.1 hx with h | h
          ·exact .inl (by rw [h]; simp)
          ·exact .inr (by rw [List.mem_singleton.1 h]; exact hgw))
         have HW811 := Lib.hid hw811
         clear hw811
         by_cases hll : l < m3 + 1
         ·have l0 : (0 : Int) ≤ (l : Int) := by omega
          have l1 : (l : Int) < 1 + (m3 : Int) := by omega
          have iwl : IntKind.i64.wrap ((l : Int) + 1) = (l : Int) + 1 := IntWalk.i64_in _ (by omega)
          have y0 := HVR4.out.cell (k := 2) (by simp)
          have zy0 := blk y0
          obtain ⟨OWN4, hOWN⟩ : ∃ o4, o4 = (Value.slice ra l rc).ownBlock.toList := ⟨_, rfl⟩
          have hown0 : ∀ c ∈ OWN4, W10.heap.size ≤ c ∧ c < W11.heap.size := fun c hc => by rw [hOWN] at hc; exact HO4.out.base c (by simpa using hc)
          have HOWN := Lib.hid hOWN
          have HOB4 := Lib.hid hown0
          have HNO1 := Lib.hid (show gr ∉ b :: OWN4 from fun hm => by
           rcases List.mem_cons.1 hm with h | h
           ·omega
           ·have := (hown0 _ h).1; omega)
          clear hOWN hown0
          have HNS11 := Lib.hid ((((HNS.out.wr HW2.out (fun c hc hm => by have := HFN.out c hc; simp at hm; omega))).wr HWR8.out (fun c hc hm => by have := HFN.out c hc; simp at hm; omega)).wr HW811.out (fun c hc hm => by have := HFN.out c hc; simp at hm; omega))
          have kk0 := fun (w' : World) (h : Wr (b :: OWN4) W11 w') => h.keepC y0 HNO1.out
          go_wp2_with fail
          refine wp_region_U (fun w' => Wr (b :: OWN4) W11 w') 8 (by kernel_rfl) ((gd : Gr W11 W11.drew).toWr (b :: OWN4)) (fun hU => ?_)
          refine anyU_q 0 ?_
          try simp only [Act.put, uq1, uq2, uq3]
          refine anyU_q 2 ?_
          try simp only [Act.put, uq1, uq2, uq3]
          refine anyU_q 3 ?_
          try simp only [Act.put, uq1, uq2, uq3]
          refine anyU_q 1 ?_
          try simp only [Act.put, uq1, uq2, uq3]
          refine anyU_ready (rs := [4]) (by kernel_rfl) (by simp) ?_
          refine (ReadyU.cons rfl (fun K hK => ?_) ReadyU.nil)
          go_simp
          go_at_call 94
          refine (l1Pick_any b fn _ nms _ (HC11.out.gr gd) (HNS11.out.gr gd) (fun hm => by have := HFN.out b hm; omega) (by omega) (by omega)).mono ?_
          rintro e W12 ⟨xp, hxp, rfl, hc12, hw12⟩
          have w12 := ((Gr.drew (Gr.refl W11)).toWr [b]).trans hw12
          have hz12 := w12.size
          have HW12 := Lib.hid w12
          have HC12 := Lib.hid hc12
          have HXP := Lib.hid (HNZ.out xp hxp)
          have HVR12 := Lib.hid (HVR4.out.wr w12 (by simp; omega))
          have z12 := HVR12.out.cell (k := 2) (by simp)
          have fz12 := HVR12.out.frozen 2
          have zz12 := blk z12
          have HO12 := Lib.hid (HO4.out.wr w12 (by rw [HF4.out]; simp) (fun c hc hm => by have h1 := (HO4.out.base c hc).1; have h2 := List.mem_singleton.1 hm; omega))
          have HNO4 := Lib.hid (show gr ∉ OWN4 from fun hm => HNO1.out (List.mem_cons_of_mem _ hm))
          refine hK.out _ _ (w12.sub (fun c hc => by rw [List.mem_singleton.1 hc]; simp)) (fun hU1 => ?_)
          clear hK K hc12 hw12 w12 hxp
          try simp only [Act.put, uq1, uq2, uq3]
          refine anyU_ready (rs := [5]) (by kernel_rfl) (by simp) ?_
          refine (ReadyU.cons rfl (fun K hK => ?_) ReadyU.nil)
          go_simp
          refine hK.out _ _ ((HW12.out.gr gd).sub (fun c hc => by rw [List.mem_singleton.1 hc]; simp)) (fun hU3 => ?_)
          clear hK K
          try simp only [Act.put, uq1, uq2, uq3]
          refine anyU_ready (rs := [6]) (by kernel_rfl) (by simp) ?_
          refine (ReadyU.cons rfl (fun K hK => ?_) ReadyU.nil)
          refine step_append_RB (α := ByteArray) (wg := E) (w0 := W10) (((HEB.out.wr ((HW2.out.trans HWR8.out)) (fun c _ => by omega)).wr (HW811.out.trans HW12.out) (fun c _ => by omega)).trans gd) (by omega) (by simp; omega) (by rfl) _ _ _ (by rfl) 9 iT (.string ByteArray.empty) 16 Try.underlying130 HZT.out.1 HZT.out.2.1 HZT.out.2.2.1 HZT.out.2.2.2 rfl (.slice ra l rc) fps xs (by rfl) (HO12.out.gr gd) _ [[]] [xp] (by rfl) (SrcR.one (w := W12) (by simp) ⟨rfl, rfl, by have := HXP.out; unfold maxLen; omega⟩) (fun c _ => by simp) (by unfold maxLen; simp; omega) (by simp; omega) ?_
          intro v5 w5 h1 h2 h3 h4
          obtain ⟨va5, vc5, hv5⟩ := h1.form
          rw [show (xs ++ [xp]).length = l + 1 from by simp [hxl]] at hv5
          subst hv5
          have K1 := Lib.hid h1
          have k2 := ((Gr.toWr (show Gr W12 (W12.alloc (.cells #[.string xp] 9)) from gd) _).trans h2)
          rw [← HOWN.out] at k2
          have z9 := k2.size
          have v51 := k2.keepC z12 HNO4.out
          have zv51 := blk v51
          have fv51 := k2.frozenC fz12 zz12 HNO4.out
          have K2 := Lib.hid k2
          refine hK.out _ _ ((HW12.out.sub (fun c hc => by rw [List.mem_singleton.1 hc]; simp)).trans (k2.sub (fun c hc => List.mem_cons_of_mem _ hc))) (fun hU4 => ?_)
          clear h1 h2 h3 h4 k2
          clear hK K
          try simp only [Act.put, uq1, uq2, uq3]
          refine anyU_q 7 ?_
          try simp only [Act.put, uq1, uq2, uq3]
          refine anyU_ready (rs := [8]) (by kernel_rfl) (by simp) ?_
          refine ReadyU.last rfl (fun K hK => ?_)
          go_simp
          refine hK.out _ _ ?_
          clear hK K
          try simp only [Act.put, uq1, uq2, uq3]
          refine anyU_done (by kernel_rfl) ?_ _
          go_wp2_with fail
          have wst : Wr [gr] w5 (w5.setCell ⟨gr, 2, none⟩ (.slice va5 (l + 1) vc5)) := Wr.setCell (Wr.refl [gr] w5) (List.mem_singleton.2 rfl) _
          refine ⟨⟨l + 1, by omega, ⟨_, fps ++ [[]], xs ++ [xp], K1.out.wr wst (by rw [List.flatten_append, HF4.out]; simp) (fun c hc hm => by have h1 := (K1.out.base c hc).1; have h2 := List.mem_singleton.1 hm; omega), by rw [List.flatten_append, HF4.out]; simp, by simp [hxl], fun y hy => ?_, (HVR12.out.wr K2.out HNO4.out).set 2 _, (HC12.out.wr K2.out (fun x hx => by have := (HOB4.out x hx).1; omega)).wr wst (fun x hx => by rw [List.mem_singleton.1 hx]; omega), ((HW11.out.more2 HW12.out (fun x hx => .inl (by rw [List.mem_singleton.1 hx]; simp))).more2 K2.out (fun x hx => .inr (HOB4.out x hx).1)).more2 wst (fun x hx => .inl (by rw [List.mem_singleton.1 hx]; simp))⟩, by go_num⟩, by simp [intOf]; omega⟩
          rcases List.mem_append.1 hy with h | h
          ·exact HXZ.out y h
          ·rw [List.mem_singleton.1 h]; exact HXP.out
         ·have hl1 : ¬ (l : Int) < 1 + (m3 : Int) := by omega
          obtain ⟨vr, fr2, rs2, ro, rf, rl, rk, rg, rcc, rw2⟩ := HR8.out
          obtain ⟨vra2, vrc2, hform2⟩ := ro.form
          subst hform2
          have HRF2 := Lib.hid rf
          have HRK2 := Lib.hid rk
          have ro11 := ro.wr HW811.out (fun c hc hm => by have h1 := rf c hc; have h2 := List.mem_singleton.1 hm; omega) (fun c hc hm => by have h1 := (ro.base c hc).1; have h2 := List.mem_singleton.1 hm; omega)
          have rg11 := rg.wr HW811.out (by simp; omega)
          have HRO11 := Lib.hid ro11
          have HRG11 := Lib.hid rg11
          have HRW11 := Lib.hid (rw2.trans (HW811.out.sub (fun c hc => by rw [List.mem_singleton.1 hc]; simp)))
          have HRB := Lib.hid (show ∀ c, (Value.slice vra2 rs2.length vrc2).ownBlock = some c → W2.heap.size ≤ c ∧ c < W8.heap.size from fun c hc => ro.base c hc)
          clear ro rf rk rg rcc rw2 ro11 rg11
          obtain ⟨f5, hs5, hf5⟩ := HO4.out.slR (by unfold reachLen; omega)
          have hf5g : ∀ c ∈ f5, W10.heap.size ≤ c := fun c hc => by
           rcases hf5 with ⟨-, rfl⟩ | ⟨z, hz, rfl⟩
           ·cases hc
           ·rcases List.mem_cons.1 hc with h | h
            ·rw [h]; exact (HO4.out.base z hz).1
            ·rw [HF4.out] at h; cases h
          rw [← hxl] at hs5
          have hrd := rdRule_mk (d := d) s1 q1 xs x1 [] [] (by unfold maxLen; omega) (by unfold maxLen; omega) hs5 (SlR.nil W11) (SlR.nil W11)
          rw [hxl] at hrd
          obtain ⟨FQ, hFQ⟩ : ∃ FQ, FQ = [] ++ ([] ++ (f5 ++ ([] ++ ([] ++ [])))) := ⟨_, rfl⟩
          rw [← hFQ] at hrd
          have hFQg : ∀ c ∈ FQ, W10.heap.size ≤ c := fun c hc => by rw [hFQ] at hc; exact hf5g c (by simpa using hc)
          have HRD := Lib.hid (show Rd.rd FQ W11 (#[.string s1, .string q1, .slice ra l rc, .bool x1, .slice none 0 0, .slice none 0 0] : Array Value).toList (⟨(s1, q1, xs, x1, [], []), true⟩ : RuleM d) from ⟨hrd, fun _ => ⟨rfl, rfl, ra, rc, by show _ = [_, _, Value.slice ra xs.length rc, _, _, _]; rw [hxl]⟩⟩)
          have HFQ := Lib.hid hFQg
          have HOKR := Lib.hid (show RuleOK (⟨(s1, q1, xs, x1, [], []), true⟩ : RuleM d) from ⟨hss, hqq, by show xs.length ≤ 3; omega, HXZ.out, by show wtL wtEquation ([] : List (GEquation d)) ≤ 30000; simp [wtL], rfl⟩)
          have HAP := Lib.hid (show ∀ c, (Value.slice vra2 rs2.length vrc2).ownBlock = some c → c ∉ [FQ].flatten from fun c hc hm => by
           have h1 := (HRB.out c hc).2
           have h2 := HFQ.out c (by simpa using hm)
           omega)
          have HGN := Lib.hid (show w.heap.size + 1 ∉ (Value.slice vra2 rs2.length vrc2).ownBlock.toList from fun hm => by have := (HRB.out _ (by simpa using hm)).1; omega)
          clear hrd hFQ hs5 hf5 hf5g hFQg
          have g1 := HRG11.out.cell (k := 1) (by simp)
          have fg1 := HRG11.out.frozen 1
          have zg1 := blk g1
          have t0 := HVR4.out.cell (k := 0) (by simp)
          have t1 := HVR4.out.cell (k := 1) (by simp)
          have t2 := HVR4.out.cell (k := 2) (by simp)
          have t3 := HVR4.out.cell (k := 3) (by simp)
          have t4 := HVR4.out.cell (k := 4) (by simp)
          have t5 := HVR4.out.cell (k := 5) (by simp)
          have zt0 := blk t0
          go_wp2_with (first | (at_builtin; refine wpList_append_RB (α := RuleM d) (wg := E) (w0 := W2) (((HEB.out.wr HW2.out (fun c _ => by omega)).wr HRW11.out (fun c _ => by omega)).trans gd) (by omega) (by simp; omega) rfl _ _ 112 rfl 138 iR (.agg #[.string ByteArray.empty, .string ByteArray.empty, .slice none 0 0, .bool false, .slice none 0 0, .slice none 0 0]) 112 Try.underlying112 HZR.out.1 HZR.out.2.1 HZR.out.2.2.1 HZR.out.2.2.2 rfl _ fr2 rs2 (by rfl) (HRO11.out.gr gd) _ [FQ] [(⟨(s1, q1, xs, x1, [], []), true⟩ : RuleM d)] (by rfl) (SrcR.one (by simp) (Rd.gr HRD.out gd)) HAP.out (by unfold maxLen; simp; omega) (by simp; omega) ?_; intro v6 w6 h1 h2 h3 h4; obtain ⟨va6, vc6, hv6⟩ := h1.form; rw [show (rs2 ++ [(⟨(s1, q1, xs, x1, [], []), true⟩ : RuleM d)]).length = rs2.length + 1 from by simp] at hv6; subst hv6; have K1 := Lib.hid h1; have K2 := Lib.hid ((Gr.toWr (show Gr W11 _ from gd) _).trans h2); clear h1 h2 h3 h4; have v61 := K2.out.keepC g1 HGN.out; have zv61 := blk v61; have fv61 := K2.out.frozenC fg1 zg1 HGN.out))
          have HP := RulesIn.push (G := w.heap.size + 1) (K := 3 * i + 1 + j) K1.out HRF2.out (fun c hc => by have := HFQ.out c hc; omega) rl HRK2.out ⟨HOKR.out, rfl⟩ (HRG11.out.wr K2.out HGN.out) (HC11.out.wr K2.out (fun x hx => by have := (HRB.out x (by simpa using hx)).1; omega)) (HRW11.out.more2 K2.out (fun x hx => .inr (HRB.out x (by simpa using hx)).1)) (by omega) (by omega)
          exact ⟨⟨j + 1, by omega, HP, by go_num⟩, by simp [intOf]; omega⟩
      ·have hj1 : ¬ (j : Int) < 1 + (m2 : Int) := by omega
       have HP := RulesIn.mono HR8.out (K' := 3 * (i + 1)) (by omega)
       go_wp2_with fail
       exact ⟨⟨i + 1, by omega, HP, by go_num⟩, by simp [intOf]; omega⟩
    ·have hi1 : ¬ (i : Int) < 1 + (m : Int) := by omega
     have g1 := HVG3.out.cell (k := 1) (by simp)
     have fg1 := HVG3.out.frozen 1
     have zg1 := blk g1
     by_cases h8 : 8 < rs.length
     ·have h8i : (8 : Int) < (rs.length : Int) := by omega
      have hcap : rs.length ≤ vrc := HRO.out.cap
      have hcap8 : 8 ≤ vrc := by omega
      go_upto_region 25 with fail
      have wst : Wr [w.heap.size + 1] W3 (W3.setCell ⟨w.heap.size + 1, 1, none⟩ (.slice vra 8 vrc)) := Wr.setCell (Wr.refl [w.heap.size + 1] W3) (List.mem_singleton.2 rfl) _
      have HF0 := Lib.hid (show FillIn d b W2 (w.heap.size + 1) (.slice va (m + 1) vc) 8 0 (W3.setCell ⟨w.heap.size + 1, 1, none⟩ (.slice vra 8 vrc)) from ⟨_, _, _, (HRO.out.takeK (k := 8) (by omega) (by omega)).wr wst (fun c hc hm => by
        obtain ⟨f, hf, hcf⟩ := List.mem_flatten.1 hc
        have h1 := HRF.out c (List.mem_flatten.2 ⟨f, List.mem_of_mem_take hf, hcf⟩)
        have h2 := List.mem_singleton.1 hm
        omega) (fun c hc hm => by have h1 := ((HRO.out.takeK (k := 8) (by omega) (by omega)).base c hc).1; have h2 := List.mem_singleton.1 hm; omega), fun c hc => by
        obtain ⟨f, hf, hcf⟩ := List.mem_flatten.1 hc
        exact HRF.out c (List.mem_flatten.2 ⟨f, List.mem_of_mem_take hf, hcf⟩), by rw [List.length_take]; omega, fun x hx => (HRK.out x (List.mem_of_mem_take hx)).1, fun l hl _ => by rw [List.getElem_take]; exact (HRK.out _ (List.getElem_mem _)).2, HVG3.out.set 1 _, HC3.out.wr wst (fun x hx => by rw [List.mem_singleton.1 hx]; omega), HW3.out.trans (wst.sub (fun c hc => by rw [List.mem_singleton.1 hc]; simp))⟩)
      have hN8 : (8 : Nat) ≤ 8 := Nat.le_refl _
      generalize W3.setCell ⟨w.heap.size + 1, 1, none⟩ (.slice vra 8 vrc) = W4 at HF0 ⊢
      clear HRO HRF HRK HVG3 HC3 g1 fg1 zg1 wst h8i hcap hcap8
      go_wp2_with fail
      go_loopw [15] (fun s15 wr => ∃ j : Nat, j ≤ 8 ∧ FillIn d b W2 (w.heap.size + 1) (.slice va (m + 1) vc) 8 j wr ∧ s15 = .int .i64 j) (fun s15 _ => 8 - (intOf s15).toNat)
      case atStart => exact ⟨0, by omega, HF0.out, rfl⟩
      case round =>
       obtain ⟨j, hj, ⟨vr, fr, rs, hown, hff, hrl, hrok, hraw, hvg, hc, hw⟩, rfl⟩ := hrel
       rename World => W5
       obtain ⟨ra, rc, hform⟩ := hown.form
       rw [hrl] at hform
       subst hform
       have hs5 := hw.size
       have HC5 := Lib.hid hc
       have HVG5 := Lib.hid hvg
       have HVR5 := Lib.hid ((HVR.out.wr HW2.out (by simp; omega)).wr hw (by simp; omega))
       have HS5 := Lib.hid (HS1.out.wr hw (fun c hc hm => by
        have h1 := HF1.out c hc
        rcases List.mem_cons.1 hm with h | h
        ·omega
        ·have := List.mem_singleton.1 h; omega))
       have HW5 := Lib.hid hw
       have HO5 := Lib.hid hown
       have HFF := Lib.hid hff
       have HRK := Lib.hid hrok
       have HRW := Lib.hid hraw
       clear hown hff hrok hraw hvg hc hw
       by_cases hlt : j < 8
       ·have j0 : (0 : Int) ≤ (j : Int) := by omega
        have j1 : (j : Int) < (8 : Int) := by omega
        have iwj : IntKind.i64.wrap ((j : Int) + 1) = (j : Int) + 1 := IntWalk.i64_in _ (by omega)
        have hjl : j < rs.length := by omega
        have y0 := HVG5.out.cell (k := 0) (by simp)
        have y1 := HVG5.out.cell (k := 1) (by simp)
        have zy0 := blk y0
        go_upto_region 28 with fail
        have HSZ := Lib.hid (show wtGrammar ((ss, rs.map RuleM.r) : GGrammar d) ≤ 1048576 from gram_wt (by omega) HSK.out (by rw [List.length_map]; omega) (fun r hr => by
         obtain ⟨x, hx, rfl⟩ := List.mem_map.1 hr
         exact (HRK.out x hx).wt))
        obtain ⟨fR, hsR, hfR⟩ := HO5.out.slR (by unfold reachLen; omega)
        have hRb : ∀ c ∈ fR, B.heap.size ≤ c := fun c hc => by
         rcases hfR with ⟨-, rfl⟩ | ⟨z, hz, rfl⟩
         ·cases hc
         ·rcases List.mem_cons.1 hc with h | h
          ·have := (HO5.out.base z hz).1; omega
          ·have := HFF.out c h; omega
        have HRG := Lib.hid (show Rd.rd (f1 ++ fR) W5 (#[.slice va (m + 1) vc, .slice ra 8 rc] : Array Value).toList ((ss, rs.map RuleM.r) : GGrammar d) from rdGrammar_mk ss (rs.map RuleM.r) HS5.out hsR.mapM)
        have HBG := Lib.hid (show b ∉ f1 ++ fR from fun hm => by
         rcases List.mem_append.1 hm with h | h
         ·have := (HF1.out b h).1; omega
         ·have := hRb b h; omega)
        clear hsR hfR hRb
        obtain ⟨g, cap, cs, fq, hv, hgb, hgl, hgc, hfq, hcells, hrd, hfz, hupd⟩ := HO5.out.upd hjl
        injection hv with e1 e2 e3
        clear e2
        subst e1 e3
        have HFFJ := Lib.hid (show ∀ c ∈ fq, W2.heap.size ≤ c from fun c hc => HFF.out c (List.mem_flatten.2 ⟨fq, List.mem_of_getElem? hfq, hc⟩))
        have HGFQ := Lib.hid (show g ∉ fq from fun hm => HO5.out.apart g rfl (List.mem_flatten.2 ⟨fq, List.mem_of_getElem? hfq, hm⟩))
        have hrawj := HRW.out j hjl (Nat.le_refl _)
        have hokj := HRK.out _ (List.getElem_mem hjl)
        obtain ⟨y, hy⟩ : ∃ y, y = rs[j] := ⟨_, rfl⟩
        rw [← hy] at hrd hrawj hokj
        have HY := Lib.hid hy
        clear hy hfq
        obtain ⟨⟨x0, x1, x2, x3, x4, x5⟩, raw⟩ := y
        obtain ⟨hr1, hr2⟩ := hrd
        obtain ⟨e4, e5, a2, c2, rfl⟩ := hr2 hrawj
        change x4 = [] at e4
        change x5 = [] at e5
        subst e4 e5
        obtain ⟨vq2, fq2, vq4, fq4, vq5, fq5, ecs, efp, hx0, hx1, hsx2, hsx4, hsx5⟩ := rdRule_inv (cs := #[.string x0, .string x1, .slice a2 x2.length c2, .bool x3, .slice none 0 0, .slice none 0 0]) x0 x1 x2 x3 [] [] hr1
        have ecs2 := congrArg Array.toList ecs
        simp at ecs2
        obtain ⟨rfl, rfl, rfl⟩ := ecs2
        clear ecs hsx4 hsx5 hr2
        have H2 := Lib.hid hsx2
        have hb2 : b ∉ fq2 := fun hm => by have := HFFJ.out b (by rw [efp]; simp [hm]); omega
        have hx2l : x2.length ≤ 3 := hokj.2.2.1
        have hx064 : x0.size ≤ 68 := hokj.1
        have hx164 : x1.size ≤ 64 := hokj.2.1
        have z0 : W5.cell? ⟨g, j * 6, none⟩ = some (.string x0) := hcells 0 _ rfl
        have z1 : W5.cell? ⟨g, j * 6 + 1, none⟩ = some (.string x1) := hcells 1 _ rfl
        have z2 : W5.cell? ⟨g, j * 6 + 2, none⟩ = some (.slice a2 x2.length c2) := hcells 2 _ rfl
        have z3 : W5.cell? ⟨g, j * 6 + 3, none⟩ = some (.bool x3) := hcells 3 _ rfl
        have z4 : W5.cell? ⟨g, j * 6 + 4, none⟩ = some (.slice none 0 0) := hcells 4 _ rfl
        have z5 : W5.cell? ⟨g, j * 6 + 5, none⟩ = some (.slice none 0 0) := hcells 5 _ rfl
        have zz0 := blk z0
        have HFZ := Lib.hid hfz
        have HOKJ := Lib.hid hokj
        have hgb2 : g ≠ b := by omega
        have HGB := Lib.hid hgb
        clear hcells hupd hr1 hsx2 hfz hokj
        have kk0 := fun (w' : World) (h : Wr [b] W5 w') => h.keepC y0 (by simp; omega)
        have kk1 := fun (w' : World) (h : Wr [b] W5 w') => h.keepC y1 (by simp; omega)
        have kk2 := fun (w' : World) (h : Wr [b] W5 w') => h.keepC z0 (by simp; omega)
        have kk3 := fun (w' : World) (h : Wr [b] W5 w') => h.keepC z1 (by simp; omega)
        have kk4 := fun (w' : World) (h : Wr [b] W5 w') => h.keepC z2 (by simp; omega)
        have kk5 := fun (w' : World) (h : Wr [b] W5 w') => h.keepC z3 (by simp; omega)
        have kk6 := fun (w' : World) (h : Wr [b] W5 w') => h.keepC z4 (by simp; omega)
        have kk7 := fun (w' : World) (h : Wr [b] W5 w') => h.keepC z5 (by simp; omega)
        refine wp_region_U (fun w' => Wr [b] W5 w') 14 (by kernel_rfl) ((gd : Gr W5 W5.drew).toWr [b]) (fun hU => ?_)
        refine anyU_q 0 ?_
        try simp only [Act.put, uq1, uq2, uq3]
        refine anyU_q 2 ?_
        try simp only [Act.put, uq1, uq2, uq3]
        refine anyU_q 3 ?_
        try simp only [Act.put, uq1, uq2, uq3]
        refine anyU_q 4 ?_
        try simp only [Act.put, uq1, uq2, uq3]
        refine anyU_q 5 ?_
        try simp only [Act.put, uq1, uq2, uq3]
        refine anyU_q 7 ?_
        try simp only [Act.put, uq1, uq2, uq3]
        refine anyU_q 10 ?_
        try simp only [Act.put, uq1, uq2, uq3]
        refine anyU_q 1 ?_
        try simp only [Act.put, uq1, uq2, uq3]
        refine anyU_q 6 ?_
        try simp only [Act.put, uq1, uq2, uq3]
        refine anyU_q 11 ?_
        try simp only [Act.put, uq1, uq2, uq3]
        refine anyU_q 8 ?_
        try simp only [Act.put, uq1, uq2, uq3]
        refine anyU_q 9 ?_
        try simp only [Act.put, uq1, uq2, uq3]
        refine anyU_ready (rs := [12]) (by kernel_rfl) (by simp) ?_
        refine (ReadyU.cons rfl (fun K hK => ?_) ReadyU.nil)
        go_simp
        go_at_call 95
        refine (l10Rule_any b (ss, rs.map RuleM.r) x0 x1 x2 x3 a2 c2 _ (HC5.out.gr gd) (Rd.gr HRG.out gd) (H2.out.gr gd) HBG.out hb2 (by omega) (by omega) HSZ.out (fun s hs => (HSK.out s hs).1) hx2l hd hdd).mono ?_
        rintro e W6 ⟨v4, f4, es, rfl, hs4, hw4, hf4, hc6, hw6⟩
        obtain ⟨a4, c4, rfl, -, -, -⟩ := hs4.open
        have w56 := ((Gr.drew (Gr.refl W5)).toWr [b]).trans hw6
        have hz56 := w56.size
        have z0 := w56.keepC z0 (by simp; omega)
        have z1 := w56.keepC z1 (by simp; omega)
        have z2 := w56.keepC z2 (by simp; omega)
        have z3 := w56.keepC z3 (by simp; omega)
        have z4 := w56.keepC z4 (by simp; omega)
        have z5 := w56.keepC z5 (by simp; omega)
        have fz0 := w56.frozenC (HFZ.out (j * 6)) hgl (by simp; omega)
        have fz1 := w56.frozenC (HFZ.out (j * 6 + 1)) hgl (by simp; omega)
        have fz2 := w56.frozenC (HFZ.out (j * 6 + 2)) hgl (by simp; omega)
        have fz3 := w56.frozenC (HFZ.out (j * 6 + 3)) hgl (by simp; omega)
        have fz4 := w56.frozenC (HFZ.out (j * 6 + 4)) hgl (by simp; omega)
        have fz5 := w56.frozenC (HFZ.out (j * 6 + 5)) hgl (by simp; omega)
        have zzg := blk z0
        have HW56 := Lib.hid w56
        have HS4 := Lib.hid hs4
        have HF4 := Lib.hid (show ∀ c ∈ f4, W5.heap.size ≤ c from fun c hc => by have := hf4 c hc; simpa using this)
        have HW4 := Lib.hid hw4
        have HC6 := Lib.hid hc6
        refine hK.out _ _ w56 (fun hU1 => ?_)
        clear hK K hs4 hf4 hw4 hc6 hw6 w56
        try simp only [Act.put, uq1, uq2, uq3]
        refine anyU_q 13 ?_
        try simp only [Act.put, uq1, uq2, uq3]
        refine anyU_ready (rs := [14]) (by kernel_rfl) (by simp) ?_
        refine ReadyU.last rfl (fun K hK => ?_)
        go_simp
        refine hK.out _ _ ?_
        clear hK K
        try simp only [Act.put, uq1, uq2, uq3]
        refine anyU_done (by kernel_rfl) ?_ _
        skip
        rw [setCell_id z0, setCell_id z1, setCell_id z2, setCell_id z3]
        have z5' : (W6.setCell ⟨g, j * 6 + 4, none⟩ (.slice a4 es.length c4)).cell? ⟨g, j * 6 + 5, none⟩ = some (.slice none 0 0) := (World.cell?_setCell_other _ _ _ _ (by intro h; injection h with _ h _; omega)).trans z5
        rw [setCell_id z5']
        have HO6 := HO5.out.wr HW56.out (fun c hc hm => by have h1 := HFF.out c hc; have h2 := List.mem_singleton.1 hm; omega) (fun c hc hm => by have h1 := (HO5.out.base c hc).1; have h2 := List.mem_singleton.1 hm; omega)
        obtain ⟨g', cap', cs', fq', hv', hgb', hgl', hgc', hfq', hcells', hrd', hfz', hset⟩ := HO6.set1 hjl
        injection hv' with e1 e2 e3
        clear e2 e3
        injection e1 with e1
        injection e1 with e1 _ _
        subst e1
        rw [← HY.out] at hrd'
        obtain ⟨hr1, hr2⟩ := hrd'
        obtain ⟨-, -, a2', c2', rfl⟩ := hr2 hrawj
        obtain ⟨vq2, fq3, vq4, fq4, vq5, fq5, ecs, efp', -, -, hsx2, -, -⟩ := rdRule_inv (cs := #[.string x0, .string x1, .slice a2' x2.length c2', .bool x3, .slice none 0 0, .slice none 0 0]) x0 x1 x2 x3 [] [] hr1
        have ecs2 := congrArg Array.toList ecs
        simp at ecs2
        obtain ⟨rfl, rfl, rfl⟩ := ecs2
        have hffj' : ∀ c ∈ fq3, W2.heap.size ≤ c := fun c hc => HFF.out c (List.mem_flatten.2 ⟨fq', List.mem_of_getElem? hfq', by rw [efp']; simp [hc]⟩)
        have hgfq' : g ∉ fq3 := fun hm => HO5.out.apart g rfl (List.mem_flatten.2 ⟨fq', List.mem_of_getElem? hfq', by rw [efp']; simp [hm]⟩)
        have hgf4 : g ∉ f4 := fun hm => by have := HF4.out g hm; omega
        have wst : Wr [g] W6 (W6.setCell ⟨g, j * 6 + 4, none⟩ (.slice a4 es.length c4)) := Wr.setCell (Wr.refl [g] W6) (List.mem_singleton.2 rfl) _
        obtain ⟨FQN, hFQN⟩ : ∃ F, F = [] ++ ([] ++ (fq3 ++ ([] ++ (f4 ++ [])))) := ⟨_, rfl⟩
        have hnew : Rd.rd (α := RuleM d) FQN (W6.setCell ⟨g, j * 6 + 4, none⟩ (.slice a4 es.length c4)) [.string x0, .string x1, .slice a2' x2.length c2', .bool x3, .slice a4 es.length c4, .slice none 0 0] (⟨(x0, x1, x2, x3, es, []), false⟩ : RuleM d) := by
         rw [hFQN]
         exact ⟨rdRule_mk (d := d) x0 x1 x2 x3 es [] (by unfold maxLen; omega) (by unfold maxLen; omega) (hsx2.wr wst (fun c hc hm => hgfq' (List.mem_singleton.1 hm ▸ hc))) (HS4.out.wr wst (fun c hc hm => hgf4 (List.mem_singleton.1 hm ▸ hc))) (SlR.nil _), fun h => by cases h⟩
        have hgN : g ∉ FQN := by rw [hFQN]; simp [hgfq', hgf4]
        have hNge : ∀ c ∈ FQN, W2.heap.size ≤ c := fun c hc => by
         rw [hFQN] at hc
         have h3 : c ∈ fq3 ∨ c ∈ f4 := by simpa using hc
         rcases h3 with h | h
         ·exact hffj' c h
         ·have := HF4.out c h; omega
        have HN : OwnR W2 138 (W6.setCell ⟨g, j * 6 + 4, none⟩ (.slice a4 es.length c4)) (.slice (some ⟨g, 0, none⟩) 8 rc) (fr.set j FQN) (rs.set j (⟨(x0, x1, x2, x3, es, []), false⟩ : RuleM d)) := hset 4 _ FQN (⟨(x0, x1, x2, x3, es, []), false⟩ : RuleM d) (show 4 < 6 by omega) hgN hnew
        have hokN : RuleOK (⟨(x0, x1, x2, x3, es, []), false⟩ : RuleM d) := ⟨hx064, hx164, hx2l, HOKJ.out.2.2.2.1, HW4.out, rfl⟩
        have HVGN := (HVG5.out.wr HW56.out (by simp; omega)).wr wst (by simp; omega)
        go_wp2_with fail
        refine ⟨⟨j + 1, by omega, ⟨_, fr.set j FQN, rs.set j (⟨(x0, x1, x2, x3, es, []), false⟩ : RuleM d), HN, fun c hc => ?_, by simp [hrl], fun x hx => ?_, fun l hl hjl2 => ?_, HVGN, HC6.out.wr wst (fun x hx => by rw [List.mem_singleton.1 hx]; omega), (HW5.out.more2 HW56.out (fun x hx => .inl (by rw [List.mem_singleton.1 hx]; simp))).more2 wst (fun x hx => .inr (by rw [List.mem_singleton.1 hx]; omega))⟩, by go_num⟩, by simp [intOf]; omega⟩
        ·obtain ⟨f, hf, hcf⟩ := List.mem_flatten.1 hc
         rcases List.mem_or_eq_of_mem_set hf with h | h
         ·exact HFF.out c (List.mem_flatten.2 ⟨f, h, hcf⟩)
         ·rw [h] at hcf; exact hNge c hcf
        ·rcases List.mem_or_eq_of_mem_set hx with h | h
         ·exact HRK.out x h
         ·rw [h]; exact hokN
        ·rw [List.getElem_set_ne (by omega)]
         exact HRW.out l (by simpa using hl) (by omega)
       ·have j1 : ¬ (j : Int) < (8 : Int) := by omega
        have g0 := HVG5.out.cell (k := 0) (by simp)
        have g1 := HVG5.out.cell (k := 1) (by simp)
        have zg0 := blk g0
        have t0 := HVR5.out.cell (k := 0) (by simp)
        have t1 := HVR5.out.cell (k := 1) (by simp)
        have ft0 := HVR5.out.frozen 0
        have ft1 := HVR5.out.frozen 1
        have zt0 := blk t0
        go_wp2_with fail
        generalize hU : ((W5.setCell ⟨w.heap.size, 0, none⟩ (.slice va (m + 1) vc)).setCell ⟨w.heap.size, 1, none⟩ (.slice ra 8 rc)) = U
        have vU : VRow U w.heap.size 114 [.slice va (m + 1) vc, .slice ra 8 rc] := by rw [← hU]; exact VRow.put2 HVR5.out _ _
        have wU : Wr [w.heap.size] W5 U := by rw [← hU]; exact Wr.put2 _ _ _ _
        clear hU
        have r0 := vU.cell (k := 0) (by simp)
        have r1 := vU.cell (k := 1) (by simp)
        obtain ⟨fR, hsR, hfR⟩ := HO5.out.slR (by unfold reachLen; omega)
        have hRb : ∀ c ∈ fR, B.heap.size ≤ c := fun c hc => by
         rcases hfR with ⟨-, rfl⟩ | ⟨z, hz, rfl⟩
         ·cases hc
         ·rcases List.mem_cons.1 hc with h | h
          ·have := (HO5.out.base z hz).1; omega
          ·have := HFF.out c h; omega
        have hall : ∀ c ∈ f1 ++ fR, B.heap.size ≤ c := fun c hm => by
         rcases List.mem_append.1 hm with h | h
         ·exact (HF1.out c h).1
         ·exact hRb c h
        refine bodyPost_ret (v := .agg #[.slice va (m + 1) vc, .slice ra 8 rc]) (by simp [results, Try.results78, go_sem, r0, r1]) rfl ⟨_, f1 ++ fR, (ss, rs.map RuleM.r), rfl, rdGrammar_mk ss (rs.map RuleM.r) (HS5.out.wr wU (fun c hc hm => by have h1 := (HF1.out c hc).1; have h2 := List.mem_singleton.1 hm; omega)) (hsR.mapM.wr wU (fun c hc hm => by have h1 := hRb c hc; have h2 := List.mem_singleton.1 hm; omega)), ⟨by show 1 ≤ ss.length; omega, by show ss.length ≤ 3; omega, HSK.out, by show (rs.map RuleM.r).length ≤ 8; rw [List.length_map]; omega, fun r hr => ?_⟩, fun c hc => by have := hall c hc; omega, HC5.out.wr wU (fun x hx => by rw [List.mem_singleton.1 hx]; exact hbl), ?_⟩
        ·obtain ⟨x, hx, rfl⟩ := List.mem_map.1 hr
         exact HRK.out x hx
        ·refine (((HWB.out.more2 HW2.out (fun x hx => ?_)).more2 HW5.out (fun x hx => ?_))).more2 wU (fun x hx => .inr (Nat.le_of_eq (List.mem_singleton.1 hx).symm)) <;>
         ·rcases List.mem_cons.1 hx with h | h
          ·exact .inl (by rw [h]; simp)
          ·exact .inr (by rw [List.mem_singleton.1 h]; omega)
     ·have h8i : ¬ (8 : Int) < (rs.length : Int) := by omega
      have hN8 : rs.length ≤ 8 := by omega
      have HF0 := Lib.hid (show FillIn d b W2 (w.heap.size + 1) (.slice va (m + 1) vc) rs.length 0 W3 from ⟨_, _, _, HRO.out, HRF.out, rfl, fun x hx => (HRK.out x hx).1, fun l hl _ => (HRK.out _ (List.getElem_mem _)).2, HVG3.out, HC3.out, HW3.out⟩)
      obtain ⟨NN, hNN⟩ : ∃ NN, NN = rs.length := ⟨_, rfl⟩
      go_upto_region 25 with fail
      rw [← hNN] at HF0 hN8
      clear HRO HRF HRK HVG3 HC3 g1 fg1 zg1 h8i hNN
      go_wp2_with fail
      go_loopw [15] (fun s15 wr => ∃ j : Nat, j ≤ NN ∧ FillIn d b W2 (w.heap.size + 1) (.slice va (m + 1) vc) NN j wr ∧ s15 = .int .i64 j) (fun s15 _ => NN - (intOf s15).toNat)
      case atStart => exact ⟨0, by omega, HF0.out, rfl⟩
      case round =>
       obtain ⟨j, hj, ⟨vr, fr, rs, hown, hff, hrl, hrok, hraw, hvg, hc, hw⟩, rfl⟩ := hrel
       rename World => W5
       obtain ⟨ra, rc, hform⟩ := hown.form
       rw [hrl] at hform
       subst hform
       have hs5 := hw.size
       have HC5 := Lib.hid hc
       have HVG5 := Lib.hid hvg
       have HVR5 := Lib.hid ((HVR.out.wr HW2.out (by simp; omega)).wr hw (by simp; omega))
       have HS5 := Lib.hid (HS1.out.wr hw (fun c hc hm => by
        have h1 := HF1.out c hc
        rcases List.mem_cons.1 hm with h | h
        ·omega
        ·have := List.mem_singleton.1 h; omega))
       have HW5 := Lib.hid hw
       have HO5 := Lib.hid hown
       have HFF := Lib.hid hff
       have HRK := Lib.hid hrok
       have HRW := Lib.hid hraw
       clear hown hff hrok hraw hvg hc hw
       by_cases hlt : j < NN
       ·have j0 : (0 : Int) ≤ (j : Int) := by omega
        have j1 : (j : Int) < (NN : Int) := by omega
        have iwj : IntKind.i64.wrap ((j : Int) + 1) = (j : Int) + 1 := IntWalk.i64_in _ (by omega)
        have hjl : j < rs.length := by omega
        have y0 := HVG5.out.cell (k := 0) (by simp)
        have y1 := HVG5.out.cell (k := 1) (by simp)
        have zy0 := blk y0
        go_upto_region 28 with fail
        have HSZ := Lib.hid (show wtGrammar ((ss, rs.map RuleM.r) : GGrammar d) ≤ 1048576 from gram_wt (by omega) HSK.out (by rw [List.length_map]; omega) (fun r hr => by
         obtain ⟨x, hx, rfl⟩ := List.mem_map.1 hr
         exact (HRK.out x hx).wt))
        obtain ⟨fR, hsR, hfR⟩ := HO5.out.slR (by unfold reachLen; omega)
        have hRb : ∀ c ∈ fR, B.heap.size ≤ c := fun c hc => by
         rcases hfR with ⟨-, rfl⟩ | ⟨z, hz, rfl⟩
         ·cases hc
         ·rcases List.mem_cons.1 hc with h | h
          ·have := (HO5.out.base z hz).1; omega
          ·have := HFF.out c h; omega
        have HRG := Lib.hid (show Rd.rd (f1 ++ fR) W5 (#[.slice va (m + 1) vc, .slice ra NN rc] : Array Value).toList ((ss, rs.map RuleM.r) : GGrammar d) from rdGrammar_mk ss (rs.map RuleM.r) HS5.out hsR.mapM)
        have HBG := Lib.hid (show b ∉ f1 ++ fR from fun hm => by
         rcases List.mem_append.1 hm with h | h
         ·have := (HF1.out b h).1; omega
         ·have := hRb b h; omega)
        clear hsR hfR hRb
        obtain ⟨g, cap, cs, fq, hv, hgb, hgl, hgc, hfq, hcells, hrd, hfz, hupd⟩ := HO5.out.upd hjl
        injection hv with e1 e2 e3
        clear e2
        subst e1 e3
        have HFFJ := Lib.hid (show ∀ c ∈ fq, W2.heap.size ≤ c from fun c hc => HFF.out c (List.mem_flatten.2 ⟨fq, List.mem_of_getElem? hfq, hc⟩))
        have HGFQ := Lib.hid (show g ∉ fq from fun hm => HO5.out.apart g rfl (List.mem_flatten.2 ⟨fq, List.mem_of_getElem? hfq, hm⟩))
        have hrawj := HRW.out j hjl (Nat.le_refl _)
        have hokj := HRK.out _ (List.getElem_mem hjl)
        obtain ⟨y, hy⟩ : ∃ y, y = rs[j] := ⟨_, rfl⟩
        rw [← hy] at hrd hrawj hokj
        have HY := Lib.hid hy
        clear hy hfq
        obtain ⟨⟨x0, x1, x2, x3, x4, x5⟩, raw⟩ := y
        obtain ⟨hr1, hr2⟩ := hrd
        obtain ⟨e4, e5, a2, c2, rfl⟩ := hr2 hrawj
        change x4 = [] at e4
        change x5 = [] at e5
        subst e4 e5
        obtain ⟨vq2, fq2, vq4, fq4, vq5, fq5, ecs, efp, hx0, hx1, hsx2, hsx4, hsx5⟩ := rdRule_inv (cs := #[.string x0, .string x1, .slice a2 x2.length c2, .bool x3, .slice none 0 0, .slice none 0 0]) x0 x1 x2 x3 [] [] hr1
        have ecs2 := congrArg Array.toList ecs
        simp at ecs2
        obtain ⟨rfl, rfl, rfl⟩ := ecs2
        clear ecs hsx4 hsx5 hr2
        have H2 := Lib.hid hsx2
        have hb2 : b ∉ fq2 := fun hm => by have := HFFJ.out b (by rw [efp]; simp [hm]); omega
        have hx2l : x2.length ≤ 3 := hokj.2.2.1
        have hx064 : x0.size ≤ 68 := hokj.1
        have hx164 : x1.size ≤ 64 := hokj.2.1
        have z0 : W5.cell? ⟨g, j * 6, none⟩ = some (.string x0) := hcells 0 _ rfl
        have z1 : W5.cell? ⟨g, j * 6 + 1, none⟩ = some (.string x1) := hcells 1 _ rfl
        have z2 : W5.cell? ⟨g, j * 6 + 2, none⟩ = some (.slice a2 x2.length c2) := hcells 2 _ rfl
        have z3 : W5.cell? ⟨g, j * 6 + 3, none⟩ = some (.bool x3) := hcells 3 _ rfl
        have z4 : W5.cell? ⟨g, j * 6 + 4, none⟩ = some (.slice none 0 0) := hcells 4 _ rfl
        have z5 : W5.cell? ⟨g, j * 6 + 5, none⟩ = some (.slice none 0 0) := hcells 5 _ rfl
        have zz0 := blk z0
        have HFZ := Lib.hid hfz
        have HOKJ := Lib.hid hokj
        have hgb2 : g ≠ b := by omega
        have HGB := Lib.hid hgb
        clear hcells hupd hr1 hsx2 hfz hokj
        have kk0 := fun (w' : World) (h : Wr [b] W5 w') => h.keepC y0 (by simp; omega)
        have kk1 := fun (w' : World) (h : Wr [b] W5 w') => h.keepC y1 (by simp; omega)
        have kk2 := fun (w' : World) (h : Wr [b] W5 w') => h.keepC z0 (by simp; omega)
        have kk3 := fun (w' : World) (h : Wr [b] W5 w') => h.keepC z1 (by simp; omega)
        have kk4 := fun (w' : World) (h : Wr [b] W5 w') => h.keepC z2 (by simp; omega)
        have kk5 := fun (w' : World) (h : Wr [b] W5 w') => h.keepC z3 (by simp; omega)
        have kk6 := fun (w' : World) (h : Wr [b] W5 w') => h.keepC z4 (by simp; omega)
        have kk7 := fun (w' : World) (h : Wr [b] W5 w') => h.keepC z5 (by simp; omega)
        refine wp_region_U (fun w' => Wr [b] W5 w') 14 (by kernel_rfl) ((gd : Gr W5 W5.drew).toWr [b]) (fun hU => ?_)
        refine anyU_q 0 ?_
        try simp only [Act.put, uq1, uq2, uq3]
        refine anyU_q 2 ?_
        try simp only [Act.put, uq1, uq2, uq3]
        refine anyU_q 3 ?_
        try simp only [Act.put, uq1, uq2, uq3]
        refine anyU_q 4 ?_
        try simp only [Act.put, uq1, uq2, uq3]
        refine anyU_q 5 ?_
        try simp only [Act.put, uq1, uq2, uq3]
        refine anyU_q 7 ?_
        try simp only [Act.put, uq1, uq2, uq3]
        refine anyU_q 10 ?_
        try simp only [Act.put, uq1, uq2, uq3]
        refine anyU_q 1 ?_
        try simp only [Act.put, uq1, uq2, uq3]
        refine anyU_q 6 ?_
        try simp only [Act.put, uq1, uq2, uq3]
        refine anyU_q 11 ?_
        try simp only [Act.put, uq1, uq2, uq3]
        refine anyU_q 8 ?_
        try simp only [Act.put, uq1, uq2, uq3]
        refine anyU_q 9 ?_
        try simp only [Act.put, uq1, uq2, uq3]
        refine anyU_ready (rs := [12]) (by kernel_rfl) (by simp) ?_
        refine (ReadyU.cons rfl (fun K hK => ?_) ReadyU.nil)
        go_simp
        go_at_call 95
        refine (l10Rule_any b (ss, rs.map RuleM.r) x0 x1 x2 x3 a2 c2 _ (HC5.out.gr gd) (Rd.gr HRG.out gd) (H2.out.gr gd) HBG.out hb2 (by omega) (by omega) HSZ.out (fun s hs => (HSK.out s hs).1) hx2l hd hdd).mono ?_
        rintro e W6 ⟨v4, f4, es, rfl, hs4, hw4, hf4, hc6, hw6⟩
        obtain ⟨a4, c4, rfl, -, -, -⟩ := hs4.open
        have w56 := ((Gr.drew (Gr.refl W5)).toWr [b]).trans hw6
        have hz56 := w56.size
        have z0 := w56.keepC z0 (by simp; omega)
        have z1 := w56.keepC z1 (by simp; omega)
        have z2 := w56.keepC z2 (by simp; omega)
        have z3 := w56.keepC z3 (by simp; omega)
        have z4 := w56.keepC z4 (by simp; omega)
        have z5 := w56.keepC z5 (by simp; omega)
        have fz0 := w56.frozenC (HFZ.out (j * 6)) hgl (by simp; omega)
        have fz1 := w56.frozenC (HFZ.out (j * 6 + 1)) hgl (by simp; omega)
        have fz2 := w56.frozenC (HFZ.out (j * 6 + 2)) hgl (by simp; omega)
        have fz3 := w56.frozenC (HFZ.out (j * 6 + 3)) hgl (by simp; omega)
        have fz4 := w56.frozenC (HFZ.out (j * 6 + 4)) hgl (by simp; omega)
        have fz5 := w56.frozenC (HFZ.out (j * 6 + 5)) hgl (by simp; omega)
        have zzg := blk z0
        have HW56 := Lib.hid w56
        have HS4 := Lib.hid hs4
        have HF4 := Lib.hid (show ∀ c ∈ f4, W5.heap.size ≤ c from fun c hc => by have := hf4 c hc; simpa using this)
        have HW4 := Lib.hid hw4
        have HC6 := Lib.hid hc6
        refine hK.out _ _ w56 (fun hU1 => ?_)
        clear hK K hs4 hf4 hw4 hc6 hw6 w56
        try simp only [Act.put, uq1, uq2, uq3]
        refine anyU_q 13 ?_
        try simp only [Act.put, uq1, uq2, uq3]
        refine anyU_ready (rs := [14]) (by kernel_rfl) (by simp) ?_
        refine ReadyU.last rfl (fun K hK => ?_)
        go_simp
        refine hK.out _ _ ?_
        clear hK K
        try simp only [Act.put, uq1, uq2, uq3]
        refine anyU_done (by kernel_rfl) ?_ _
        skip
        rw [setCell_id z0, setCell_id z1, setCell_id z2, setCell_id z3]
        have z5' : (W6.setCell ⟨g, j * 6 + 4, none⟩ (.slice a4 es.length c4)).cell? ⟨g, j * 6 + 5, none⟩ = some (.slice none 0 0) := (World.cell?_setCell_other _ _ _ _ (by intro h; injection h with _ h _; omega)).trans z5
        rw [setCell_id z5']
        have HO6 := HO5.out.wr HW56.out (fun c hc hm => by have h1 := HFF.out c hc; have h2 := List.mem_singleton.1 hm; omega) (fun c hc hm => by have h1 := (HO5.out.base c hc).1; have h2 := List.mem_singleton.1 hm; omega)
        obtain ⟨g', cap', cs', fq', hv', hgb', hgl', hgc', hfq', hcells', hrd', hfz', hset⟩ := HO6.set1 hjl
        injection hv' with e1 e2 e3
        clear e2 e3
        injection e1 with e1
        injection e1 with e1 _ _
        subst e1
        rw [← HY.out] at hrd'
        obtain ⟨hr1, hr2⟩ := hrd'
        obtain ⟨-, -, a2', c2', rfl⟩ := hr2 hrawj
        obtain ⟨vq2, fq3, vq4, fq4, vq5, fq5, ecs, efp', -, -, hsx2, -, -⟩ := rdRule_inv (cs := #[.string x0, .string x1, .slice a2' x2.length c2', .bool x3, .slice none 0 0, .slice none 0 0]) x0 x1 x2 x3 [] [] hr1
        have ecs2 := congrArg Array.toList ecs
        simp at ecs2
        obtain ⟨rfl, rfl, rfl⟩ := ecs2
        have hffj' : ∀ c ∈ fq3, W2.heap.size ≤ c := fun c hc => HFF.out c (List.mem_flatten.2 ⟨fq', List.mem_of_getElem? hfq', by rw [efp']; simp [hc]⟩)
        have hgfq' : g ∉ fq3 := fun hm => HO5.out.apart g rfl (List.mem_flatten.2 ⟨fq', List.mem_of_getElem? hfq', by rw [efp']; simp [hm]⟩)
        have hgf4 : g ∉ f4 := fun hm => by have := HF4.out g hm; omega
        have wst : Wr [g] W6 (W6.setCell ⟨g, j * 6 + 4, none⟩ (.slice a4 es.length c4)) := Wr.setCell (Wr.refl [g] W6) (List.mem_singleton.2 rfl) _
        obtain ⟨FQN, hFQN⟩ : ∃ F, F = [] ++ ([] ++ (fq3 ++ ([] ++ (f4 ++ [])))) := ⟨_, rfl⟩
        have hnew : Rd.rd (α := RuleM d) FQN (W6.setCell ⟨g, j * 6 + 4, none⟩ (.slice a4 es.length c4)) [.string x0, .string x1, .slice a2' x2.length c2', .bool x3, .slice a4 es.length c4, .slice none 0 0] (⟨(x0, x1, x2, x3, es, []), false⟩ : RuleM d) := by
         rw [hFQN]
         exact ⟨rdRule_mk (d := d) x0 x1 x2 x3 es [] (by unfold maxLen; omega) (by unfold maxLen; omega) (hsx2.wr wst (fun c hc hm => hgfq' (List.mem_singleton.1 hm ▸ hc))) (HS4.out.wr wst (fun c hc hm => hgf4 (List.mem_singleton.1 hm ▸ hc))) (SlR.nil _), fun h => by cases h⟩
        have hgN : g ∉ FQN := by rw [hFQN]; simp [hgfq', hgf4]
        have hNge : ∀ c ∈ FQN, W2.heap.size ≤ c := fun c hc => by
         rw [hFQN] at hc
         have h3 : c ∈ fq3 ∨ c ∈ f4 := by simpa using hc
         rcases h3 with h | h
         ·exact hffj' c h
         ·have := HF4.out c h; omega
        have HN : OwnR W2 138 (W6.setCell ⟨g, j * 6 + 4, none⟩ (.slice a4 es.length c4)) (.slice (some ⟨g, 0, none⟩) NN rc) (fr.set j FQN) (rs.set j (⟨(x0, x1, x2, x3, es, []), false⟩ : RuleM d)) := hset 4 _ FQN (⟨(x0, x1, x2, x3, es, []), false⟩ : RuleM d) (show 4 < 6 by omega) hgN hnew
        have hokN : RuleOK (⟨(x0, x1, x2, x3, es, []), false⟩ : RuleM d) := ⟨hx064, hx164, hx2l, HOKJ.out.2.2.2.1, HW4.out, rfl⟩
        have HVGN := (HVG5.out.wr HW56.out (by simp; omega)).wr wst (by simp; omega)
        go_wp2_with fail
        refine ⟨⟨j + 1, by omega, ⟨_, fr.set j FQN, rs.set j (⟨(x0, x1, x2, x3, es, []), false⟩ : RuleM d), HN, fun c hc => ?_, by simp [hrl], fun x hx => ?_, fun l hl hjl2 => ?_, HVGN, HC6.out.wr wst (fun x hx => by rw [List.mem_singleton.1 hx]; omega), (HW5.out.more2 HW56.out (fun x hx => .inl (by rw [List.mem_singleton.1 hx]; simp))).more2 wst (fun x hx => .inr (by rw [List.mem_singleton.1 hx]; omega))⟩, by go_num⟩, by simp [intOf]; omega⟩
        ·obtain ⟨f, hf, hcf⟩ := List.mem_flatten.1 hc
         rcases List.mem_or_eq_of_mem_set hf with h | h
         ·exact HFF.out c (List.mem_flatten.2 ⟨f, h, hcf⟩)
         ·rw [h] at hcf; exact hNge c hcf
        ·rcases List.mem_or_eq_of_mem_set hx with h | h
         ·exact HRK.out x h
         ·rw [h]; exact hokN
        ·rw [List.getElem_set_ne (by omega)]
         exact HRW.out l (by simpa using hl) (by omega)
       ·have j1 : ¬ (j : Int) < (NN : Int) := by omega
        have g0 := HVG5.out.cell (k := 0) (by simp)
        have g1 := HVG5.out.cell (k := 1) (by simp)
        have zg0 := blk g0
        have t0 := HVR5.out.cell (k := 0) (by simp)
        have t1 := HVR5.out.cell (k := 1) (by simp)
        have ft0 := HVR5.out.frozen 0
        have ft1 := HVR5.out.frozen 1
        have zt0 := blk t0
        go_wp2_with fail
        generalize hU : ((W5.setCell ⟨w.heap.size, 0, none⟩ (.slice va (m + 1) vc)).setCell ⟨w.heap.size, 1, none⟩ (.slice ra NN rc)) = U
        have vU : VRow U w.heap.size 114 [.slice va (m + 1) vc, .slice ra NN rc] := by rw [← hU]; exact VRow.put2 HVR5.out _ _
        have wU : Wr [w.heap.size] W5 U := by rw [← hU]; exact Wr.put2 _ _ _ _
        clear hU
        have r0 := vU.cell (k := 0) (by simp)
        have r1 := vU.cell (k := 1) (by simp)
        obtain ⟨fR, hsR, hfR⟩ := HO5.out.slR (by unfold reachLen; omega)
        have hRb : ∀ c ∈ fR, B.heap.size ≤ c := fun c hc => by
         rcases hfR with ⟨-, rfl⟩ | ⟨z, hz, rfl⟩
         ·cases hc
         ·rcases List.mem_cons.1 hc with h | h
          ·have := (HO5.out.base z hz).1; omega
          ·have := HFF.out c h; omega
        have hall : ∀ c ∈ f1 ++ fR, B.heap.size ≤ c := fun c hm => by
         rcases List.mem_append.1 hm with h | h
         ·exact (HF1.out c h).1
         ·exact hRb c h
        refine bodyPost_ret (v := .agg #[.slice va (m + 1) vc, .slice ra NN rc]) (by simp [results, Try.results78, go_sem, r0, r1]) rfl ⟨_, f1 ++ fR, (ss, rs.map RuleM.r), rfl, rdGrammar_mk ss (rs.map RuleM.r) (HS5.out.wr wU (fun c hc hm => by have h1 := (HF1.out c hc).1; have h2 := List.mem_singleton.1 hm; omega)) (hsR.mapM.wr wU (fun c hc hm => by have h1 := hRb c hc; have h2 := List.mem_singleton.1 hm; omega)), ⟨by show 1 ≤ ss.length; omega, by show ss.length ≤ 3; omega, HSK.out, by show (rs.map RuleM.r).length ≤ 8; rw [List.length_map]; omega, fun r hr => ?_⟩, fun c hc => by have := hall c hc; omega, HC5.out.wr wU (fun x hx => by rw [List.mem_singleton.1 hx]; exact hbl), ?_⟩
        ·obtain ⟨x, hx, rfl⟩ := List.mem_map.1 hr
         exact HRK.out x hx
        ·refine (((HWB.out.more2 HW2.out (fun x hx => ?_)).more2 HW5.out (fun x hx => ?_))).more2 wU (fun x hx => .inr (Nat.le_of_eq (List.mem_singleton.1 hx).symm)) <;>
         ·rcases List.mem_cons.1 hx with h | h
          ·exact .inl (by rw [h]; simp)
          ·exact .inr (by rw [List.mem_singleton.1 h]; omega)
end Go.Proofs.Ytmfcagcanhmdbaa
