/- A store and a tree drawn. No condition. -/
import Derived.Test.YtmfcagcanhmdbaaH38
import Derived.Test.YtmfcagcanhmdbaaH41
namespace Go.Proofs.Ytmfcagcanhmdbaa
open Go.RowKit
set_option linter.unusedVariables false
set_option linter.unusedSimpArgs false

def StoreD (b : Nat) (w : World) (e : Ending) (w' : World) : Prop :=
 ∃ (vs : Value) (Fs : List Nat) (s : GStore) (vt : Value) (Ft : List Nat) (ns : List GNode), e = .returned (.tuple #[.agg #[vs], .agg #[vt]]) ∧ OwnD w w' vs Fs s ∧ OwnT w w' vt Ft ns ∧ (∀ x ∈ Fs, x ∉ Ft) ∧ wtStore s ≤ 8001 ∧ TreeFine ns ∧ ns.length ≤ 40 ∧ CurR w' b ∧ Wr [b] w w'
def LoopD (b sB tB k : Nat) (w W4 wr : World) : Prop :=
 ∃ (vs : Value) (Fs : List Nat) (s : GStore) (vt : Value) (Ft : List Nat) (ns : List GNode), VRow wr sB 32 [vs] ∧ VRow wr tB 38 [vt] ∧ OwnD w wr vs Fs s ∧ OwnT w wr vt Ft ns ∧ (∀ x ∈ Fs, x ∉ Ft ∧ W4.heap.size ≤ x) ∧ (∀ x ∈ Ft, x ≠ tB ∧ x ≠ sB ∧ w.heap.size + 2 ≤ x) ∧ wtStore s ≤ 4000 * k ∧ TreeFine ns ∧ ns.length ≤ 40 ∧ CurR wr b ∧ Wr [b, sB, tB] W4 wr
theorem OwnT.rd {w0 w : World} {v : Value} {F : List Nat} {ns : List GNode} (h : OwnT w0 w v F ns) (hw : wtTree ns ≤ 1048576) : ∃ fq, Rd.rd (α := GTree) fq w [v] ns ∧ Fresh w0 fq ∧ ∀ b ∈ fq, b ∈ F := by
 obtain ⟨h1, h2⟩ := kids_tree hw
 obtain ⟨fq, h3, h4, h5⟩ := h.read (by unfold reachLen; omega) (fun x hx => by have := h2 x hx; have e : (kidsN x).length = x.2.2.2.2.2.length := rfl; unfold reachLen; omega)
 exact ⟨fq, rdTree_mk _ h3, h4, h5⟩
theorem OwnD.rd {w0 w : World} {v : Value} {F : List Nat} {s : GStore} (h : OwnD w0 w v F s) (hw : wtStore s ≤ 1048576) : ∃ fq, Rd.rd (α := GStore) fq w [v] s ∧ Fresh w0 fq ∧ ∀ b ∈ fq, b ∈ F := by
 obtain ⟨h1, h2⟩ := kids_store hw
 obtain ⟨fq, h3, h4, h5⟩ := h.read (by unfold reachLen; omega) (fun x hx => by have := h2 x hx; unfold reachLen; omega)
 exact ⟨fq, rdStore_mk _ h3, h4, h5⟩

theorem wt_more (s : GStore) (h : 0 < s.length) {CH : List Int} (hc : CH = s[0].2.2) (y : Int) : wtStore (s.set 0 (s[0].1, s[0].2.1, CH ++ [y])) = wtStore s + 1 := by
 cases s with
 | nil => simp at h
 | cons c cs =>
  subst hc
  have e1 : wtCell (c.1, c.2.1, c.2.2 ++ [y]) = wtCell c + 1 := by
   show c.1.size + (c.2.2 ++ [y]).length = c.1.size + c.2.2.length + 1
   simp
   omega
  show wtL wtCell _ = wtL wtCell _ + 1
  simp only [List.set_cons_zero, List.getElem_cons_zero, wtL, List.map_cons, List.sum_cons, List.length_cons, e1]
  omega
set_option maxRecDepth 100000 in
set_option maxHeartbeats 16000000 in
theorem l39Draw_any (b : Nat) (w : World) (h : CurR w b) :
  Calls Try.prog 47 #[.pointer (some ⟨b, 0, none⟩)] w (StoreD b w) := by
 obtain ⟨i0, hi, hz0, hz1, hz2⟩ := info_parts Try.infoIntC
 have HZ := Lib.hid (And.intro hi (And.intro hz0 (And.intro hz1 hz2)))
 clear hi hz0 hz1 hz2
 obtain ⟨E, hE0, hEg⟩ : ∃ E : World, E.heap.size = 0 ∧ Gr E w := ⟨w.first 0, size_first (by omega), gr_first (by omega)⟩
 have HC := Lib.hid h
 have hbl := h.lt
 clear h
 go_enter Try.func47, Try.ntmps47
 go_wp2_with fail
 generalize hW0 : ((w.alloc (.cells #[.slice none 0 0] 32)).alloc (.cells #[.slice none 0 0] 38)) = W0
 have g0W : Gr w W0 := by rw [← hW0]; exact gd
 have VS0 := Lib.hid (show VRow W0 w.heap.size 32 [.slice none 0 0] by rw [← hW0]; exact (VRow.new (A := w) rfl).gr gd)
 have VT0 := Lib.hid (show VRow W0 (w.heap.size + 1) 38 [.slice none 0 0] by rw [← hW0]; exact VRow.new (by simp))
 have s0 : W0.heap.size = w.heap.size + 2 := by rw [← hW0]; simp
 clear hW0
 have HG0 := Lib.hid g0W
 refine (l10Draw_any (d := 2) (by omega) (by omega) b W0 (HC.out.gr g0W)).mono ?_
 rintro e W1 ⟨cg, fq, g, rfl, hrg, hok, hfq, hc1, hw1⟩
 have HRG := Lib.hid hrg
 obtain ⟨g0, g1⟩ := g
 obtain ⟨vg0, fg0, vg1, fg1, rfl, hfp, hg0, hg1⟩ := rdGrammar_inv g0 g1 hrg
 obtain ⟨ag0, kg0, rfl, -, -, -⟩ := hg0.open
 obtain ⟨ag1, kg1, rfl, -, -, -⟩ := hg1.open
 have hs1 := hw1.size
 have HOK := Lib.hid hok
 have HFQ := Lib.hid hfq
 have HFL := Lib.hid (Rd.lt hrg)
 have HC1 := Lib.hid hc1
 have VS1 := Lib.hid (VS0.out.wr hw1 (by simp; omega))
 have VT1 := Lib.hid (VT0.out.wr hw1 (by simp; omega))
 have HW1 := Lib.hid ((HG0.out.toWr [b]).trans hw1)
 clear hg0 hg1 hrg hok hfq hc1 hw1 hfp g0W VS0 VT0
 go_upto_region 3 with fail
 have VG3 := (show VRow ((W1.alloc (.cells #[.slice ag0 g0.length kg0, .slice ag1 g1.length kg1] 114)).alloc (.cells #[.slice none 0 0] 32)) W1.heap.size 114 [.slice ag0 g0.length kg0, .slice ag1 g1.length kg1] from (VRow.new (A := W1) rfl).gr gd)
 have VX3 := (show VRow ((W1.alloc (.cells #[.slice ag0 g0.length kg0, .slice ag1 g1.length kg1] 114)).alloc (.cells #[.slice none 0 0] 32)) (W1.heap.size + 1) 32 [.slice none 0 0] from VRow.new (by simp))
 have g13 := (show Gr W1 ((W1.alloc (.cells #[.slice ag0 g0.length kg0, .slice ag1 g1.length kg1] 114)).alloc (.cells #[.slice none 0 0] 32)) from gd)
 have s13 := (show ((W1.alloc (.cells #[.slice ag0 g0.length kg0, .slice ag1 g1.length kg1] 114)).alloc (.cells #[.slice none 0 0] 32)).heap.size = W1.heap.size + 2 by simp)
 generalize ((W1.alloc (.cells #[.slice ag0 g0.length kg0, .slice ag1 g1.length kg1] 114)).alloc (.cells #[.slice none 0 0] 32)) = W3 at VG3 VX3 g13 s13 ⊢
 have y0 := VG3.cell (k := 0) (by simp)
 have y1 := VG3.cell (k := 1) (by simp)
 have zy0 := blk y0
 have hbq : b ∉ fq := fun hm => by have := HFQ.out b hm; omega
 have HRG3 := Lib.hid (Rd.gr HRG.out g13)
 have HG13 := Lib.hid g13
 have HVG3 := Lib.hid VG3
 have HVX3 := Lib.hid VX3
 clear VG3 VX3 g13
 go_wp2_with fail
 refine (l13Draw_any b (g0, g1) _ (HC1.out.gr HG13.out) HRG3.out hbq HOK.out).mono ?_
 rintro e W4 ⟨vt, Ft, ns, rfl, hoT, hfT, hnT, hc4, hw4⟩
 obtain ⟨at4, ct4, rfl⟩ := hoT.form
 have hs4 := hw4.size
 clear y0 y1 zy0
 go_upto_region 4 with fail
 have g45 := (show Gr W4 (W4.alloc (.cells #[.slice at4 ns.length ct4] 38)) from gd)
 have VY5 := Lib.hid (show VRow (W4.alloc (.cells #[.slice at4 ns.length ct4] 38)) W4.heap.size 38 [.slice at4 ns.length ct4] from VRow.new rfl)
 have s45 := (show (W4.alloc (.cells #[.slice at4 ns.length ct4] 38)).heap.size = W4.heap.size + 1 by simp)
 generalize W4.alloc (.cells #[.slice at4 ns.length ct4] 38) = W5 at VY5 g45 s45 ⊢
 have w35 := hw4.gr g45
 have VG5 := Lib.hid (HVG3.out.wr w35 (by simp; omega))
 have VX5 := Lib.hid (HVX3.out.wr w35 (by simp; omega))
 have VS5 := Lib.hid ((VS1.out.gr HG13.out).wr w35 (by simp; omega))
 have VT5 := Lib.hid ((VT1.out.gr HG13.out).wr w35 (by simp; omega))
 have HC5 := Lib.hid (hc4.gr g45)
 have HT5 := Lib.hid ((hoT.lower (by omega) : OwnT w _ _ _ _).gr g45)
 have HF5 := Lib.hid hfT
 have HRG5 := Lib.hid (Rd.wr HRG3.out w35 (fun x hx hm => hbq (by rw [← List.mem_singleton.1 hm]; exact hx)))
 have HW5 := Lib.hid ((HW1.out.gr HG13.out).trans w35)
 have HFT := Lib.hid (show ∀ x ∈ Ft, x ≠ W4.heap.size ∧ x ≠ W1.heap.size + 1 ∧ w.heap.size + 2 ≤ x from fun x hx => by have h1 := hoT.ge x hx; have h2 := hoT.lt x hx; omega)
 clear hoT hfT hc4 hw4 g45 w35 HVG3 HVX3 HRG3 HC1 VS1 VT1
 go_wp2_with fail
 refine (l1Below_any b 3 _ HC5.out (by omega) (by omega)).mono ?_
 rintro e W6 ⟨n, rfl, hn0, hn1, hc6, hw6⟩
 obtain ⟨N, rfl⟩ : ∃ N : Nat, n = N := ⟨n.toNat, by omega⟩
 have hs6 := hw6.size
 have VG6 := Lib.hid (VG5.out.wr hw6 (by simp; omega))
 have VX6 := Lib.hid (VX5.out.wr hw6 (by simp; omega))
 have VY6 := Lib.hid (VY5.out.wr hw6 (by simp; omega))
 have VS6 := Lib.hid (VS5.out.wr hw6 (by simp; omega))
 have VT6 := Lib.hid (VT5.out.wr hw6 (by simp; omega))
 have HC6 := Lib.hid hc6
 have HT6 := Lib.hid (HT5.out.wr hw6 (fun x hx hm => by have h1 := HT5.out.ge x hx; have h2 := List.mem_singleton.1 hm; omega))
 have HRG6 := Lib.hid (Rd.wr HRG5.out hw6 (fun x hx hm => hbq (by rw [← List.mem_singleton.1 hm]; exact hx)))
 have HW6 := Lib.hid (HW5.out.trans hw6)
 clear hc6 hw6 VG5 VX5 VY5 VS5 VT5 HC5 HT5 HRG5
 have HL0 := Lib.hid (show LoopD b (W1.heap.size + 1) W4.heap.size 0 w W6 W6 from ⟨_, _, _, _, _, _, VX6.out, VY6.out, OwnD.nil w W6, HT6.out, by simp, HFT.out, by decide, HF5.out, hnT, HC6.out, Wr.refl _ _⟩)
 go_wp2_with fail
 go_loopw [8] (fun s8 wr => ∃ k : Nat, k ≤ N ∧ LoopD b (W1.heap.size + 1) W4.heap.size k w W6 wr ∧ s8 = .int .i64 k) (fun s8 _ => N - (intOf s8).toNat)
 case atStart => exact ⟨0, by omega, HL0.out, rfl⟩
 case round =>
  obtain ⟨k, hk, ⟨vs, Fs, s, vt7, Ft7, ns7, hvx, hvy, hos, hot, hFs, hFt, hws, htf, htl, hc7, hw7⟩, rfl⟩ := hrel
  rename World => W7
  have hs7 := hw7.size
  obtain ⟨as7, cs7, rfl⟩ := hos.form
  obtain ⟨at7, ct7, rfl⟩ := hot.form
  have HVX7 := Lib.hid hvx
  have HVY7 := Lib.hid hvy
  have HOS7 := Lib.hid hos
  have HOT7 := Lib.hid hot
  have HFS7 := Lib.hid hFs
  have HFT7 := Lib.hid hFt
  have HTF7 := Lib.hid htf
  have HC7 := Lib.hid hc7
  have HW7 := Lib.hid hw7
  clear hvx hvy hos hot hFs hFt htf hc7 hw7
  have x0 := HVX7.out.cell (k := 0) (by simp)
  have y0 := HVY7.out.cell (k := 0) (by simp)
  have zx0 := blk x0
  have zy0 := blk y0
  by_cases hlt : k < N
  ·have k0 : (0 : Int) ≤ (k : Int) := by omega
   have k1 : (k : Int) < (N : Int) := by omega
   have iwk : IntKind.i64.wrap ((k : Int) + 1) = (k : Int) + 1 := IntWalk.i64_in _ (by omega)
   have hwt7 := HTF7.out.wt htl
   obtain ⟨fs7, hrs7, -, -⟩ := HOS7.out.rd (by omega)
   obtain ⟨ft7, hrt7, -, -⟩ := HOT7.out.rd (by omega)
   have HRS7 := Lib.hid hrs7
   have HRT7 := Lib.hid hrt7
   clear hrs7 hrt7
   go_wp2_with fail
   refine (specIntern_own (cs := #[.slice as7 s.length cs7]) (ct := #[.slice at7 ns7.length ct7]) s ns7 0 W7 HRS7.out HRT7.out (by omega) (by omega)).mono ?_
   rintro e W8 ⟨v8, F8, rfl, ho8, hg8⟩
   obtain ⟨as8, cs8, rfl⟩ := ho8.form
   have hwt8 := itn_le (s := s) (t := ns7) 0
   generalize itnOf s ns7 0 = R8 at ho8 hwt8 ⊢
   obtain ⟨s8, r8⟩ := R8
   simp only at ho8 hwt8 ⊢
   have hs8 := hg8.size
   have HVX8 := Lib.hid (HVX7.out.gr hg8)
   have HVY8 := Lib.hid (HVY7.out.gr hg8)
   have HO8 := Lib.hid ho8
   have x8 := HVX8.out.cell (k := 0) (by simp)
   have fx8 := HVX8.out.frozen 0
   have zx8 := blk x8
   have HG8 := Lib.hid hg8
   clear x0 y0 zx0 zy0 ho8 hg8
   go_upto_region 9 with fail
   have wU := Wr.put1 W8 (W1.heap.size + 1) (.slice as8 s8.length cs8)
   have vU := VRow.put1 HVX8.out (.slice as8 s8.length cs8)
   generalize W8.setCell ⟨W1.heap.size + 1, 0, none⟩ (.slice as8 s8.length cs8) = W9 at wU vU ⊢
   have hs9 := wU.size
   have w69 := (HW7.out.gr HG8.out).trans (wU.sub (fun x hx => by rw [List.mem_singleton.1 hx]; simp))
   have HVX9 := Lib.hid vU
   have HVY9 := Lib.hid (HVY8.out.wr wU (by simp; omega))
   have HO9 := Lib.hid (HO8.out.wr wU (fun x hx hm => by have h1 := HO8.out.ge x hx; have h2 := List.mem_singleton.1 hm; omega))
   have HC9 := Lib.hid ((HC7.out.gr HG8.out).wr wU (fun x hx => by rw [List.mem_singleton.1 hx]; omega))
   have HVG9 := Lib.hid (VG6.out.wr w69 (by simp; omega))
   have HRG9 := Lib.hid (Rd.wr HRG6.out w69 (fun x hx hm => by
    have h1 := HFL.out x hx
    have h2 := HFQ.out x hx
    simp at hm
    omega))
   have HW9 := Lib.hid w69
   have y9 := HVG9.out.cell (k := 0) (by simp)
   have z9 := HVG9.out.cell (k := 1) (by simp)
   have zy9 := blk y9
   clear x8 fx8 zx8 wU vU w69
   go_wp2_with fail
   refine (l13Draw_any b (g0, g1) _ HC9.out HRG9.out hbq HOK.out).mono ?_
   rintro e WA ⟨vA, FA, nsA, rfl, hoA, hfA, hnA, hcA, hwA⟩
   obtain ⟨atA, ctA, rfl⟩ := hoA.form
   have hsA := hwA.size
   have HVYA := Lib.hid (HVY9.out.wr hwA (by simp; omega))
   have yA := HVYA.out.cell (k := 0) (by simp)
   have fyA := HVYA.out.frozen 0
   have zyA := blk yA
   have HOA := Lib.hid hoA
   have HFA := Lib.hid hfA
   have HCA := Lib.hid hcA
   have HWA := Lib.hid hwA
   clear y9 z9 zy9 hoA hfA hcA hwA
   go_wp2_with fail
   have wU := Wr.put1 WA W4.heap.size (.slice atA nsA.length ctA)
   have vU := VRow.put1 HVYA.out (.slice atA nsA.length ctA)
   generalize WA.setCell ⟨W4.heap.size, 0, none⟩ (.slice atA nsA.length ctA) = WB at wU vU ⊢
   have hdis : ∀ x ∈ F8, W7.heap.size ≤ x ∧ x < W8.heap.size := fun x hx => ⟨HO8.out.ge x hx, HO8.out.lt x hx⟩
   have hdisA : ∀ x ∈ FA, W9.heap.size ≤ x ∧ x < WA.heap.size := fun x hx => ⟨HOA.out.ge x hx, HOA.out.lt x hx⟩
   refine ⟨⟨k + 1, by omega, ⟨_, F8, s8, _, FA, nsA, (HVX9.out.wr HWA.out (by simp; omega)).wr wU (by simp; omega), vU, ((HO9.out.lower (by omega) : OwnD w _ _ _ _).wr HWA.out (fun x hx hm => by have h1 := hdis x hx; have h2 := List.mem_singleton.1 hm; omega)).wr wU (fun x hx hm => by have h1 := hdis x hx; have h2 := List.mem_singleton.1 hm; omega), (HOA.out.lower (by omega) : OwnT w _ _ _ _).wr wU (fun x hx hm => by have h1 := hdisA x hx; have h2 := List.mem_singleton.1 hm; omega), fun x hx => ⟨fun hm => by have h1 := hdis x hx; have h2 := hdisA x hm; omega, by have h1 := hdis x hx; omega⟩, fun x hx => by have h1 := hdisA x hx; omega, by omega, HFA.out, hnA, HCA.out.wr wU (fun x hx => by rw [List.mem_singleton.1 hx]; omega), (HW9.out.trans (HWA.out.sub (fun x hx => by rw [List.mem_singleton.1 hx]; simp))).trans (wU.sub (fun x hx => by rw [List.mem_singleton.1 hx]; simp))⟩, by go_num⟩, by simp [intOf]; omega⟩
  ·have k1 : ¬ (k : Int) < (N : Int) := by omega
   clear x0 y0 zx0 zy0
   by_cases hs0 : s.length = 0
   ·have x0 := HVX7.out.cell (k := 0) (by simp)
    have zx0 := blk x0
    have h0 : ¬ (0 : Int) < (s.length : Int) := by omega
    clear hs0
    go_upto_region 12 with fail
    have HXY := HVX7
    have HYY := HVY7
    have HSY := Lib.hid (VS6.out.wr HW7.out (by simp; omega))
    have HTY := Lib.hid (VT6.out.wr HW7.out (by simp; omega))
    have HOSY := HOS7
    have HOTY := HOT7
    have HCY := HC7
    have HWY := Lib.hid (HW6.out.more2 HW7.out (fun x hx => by simp at hx; rcases hx with h | h | h <;> (subst h; simp <;> omega)))
    have HFSY := Lib.hid (show ∀ x ∈ Fs, w.heap.size + 2 ≤ x from fun x hx => by have h1 := (HFS7.out x hx).2; omega)
    have HFTY := Lib.hid (show ∀ x ∈ Ft7, w.heap.size + 2 ≤ x from fun x hx => (HFT7.out x hx).2.2)
    have HDY := Lib.hid (show ∀ x ∈ Fs, x ∉ Ft7 from fun x hx => (HFS7.out x hx).1)
    have HTFY := HTF7
    have hWSY : wtStore s ≤ 8001 := by omega
    have hTLY := htl
    clear x0 zx0
    have x0 := HXY.out.cell (k := 0) (by simp)
    have y0 := HYY.out.cell (k := 0) (by simp)
    have s0 := HSY.out.cell (k := 0) (by simp)
    have t0 := HTY.out.cell (k := 0) (by simp)
    have fs0 := HSY.out.frozen 0
    have ft0 := HTY.out.frozen 0
    have zx0 := blk x0
    have zy0 := blk y0
    have zs0 := blk s0
    have zt0 := blk t0
    go_region
    all_goals
     go_wp2_with fail
     generalize hWF : ((W7.setCell ⟨w.heap.size, 0, none⟩ (.slice as7 s.length cs7)).setCell ⟨w.heap.size + 1, 0, none⟩ (.slice at7 ns7.length ct7)).drew = WF
     have wF : Wr [w.heap.size, w.heap.size + 1] W7 WF := by rw [← hWF]; exact (((Wr.refl [w.heap.size, w.heap.size + 1] W7).setCell (by simp) (.slice as7 s.length cs7)).setCell (by simp) (.slice at7 ns7.length ct7)).gr (Gr.drew (Gr.refl _))
     have sF : VRow WF w.heap.size 32 [.slice as7 s.length cs7] := by rw [← hWF]; exact ((HSY.out.set 0 (.slice as7 s.length cs7)).ne (by omega)).gr (Gr.drew (Gr.refl _))
     have tF : VRow WF (w.heap.size + 1) 38 [.slice at7 ns7.length ct7] := by rw [← hWF]; exact ((HTY.out.ne (by omega)).set 0 (.slice at7 ns7.length ct7)).gr (Gr.drew (Gr.refl _))
     clear hWF
     have r0 := sF.cell (k := 0) (by simp)
     have r1 := tF.cell (k := 0) (by simp)
     exact bodyPost_ret (v := .tuple #[.agg #[.slice as7 s.length cs7], .agg #[.slice at7 ns7.length ct7]]) (by simp [results, Try.results47, go_sem, r0, r1]) rfl ⟨_, _, _, _, _, _, rfl, HOSY.out.wr wF (fun x hx hm => by have h1 := HFSY.out x hx; simp at hm; omega), HOTY.out.wr wF (fun x hx hm => by have h1 := HFTY.out x hx; simp at hm; omega), HDY.out, hWSY, HTFY.out, hTLY, HCY.out.wr wF (fun x hx => by simp at hx; omega), HWY.out.more2 wF (fun x hx => .inr (by simp at hx; omega))⟩
   ·have h0 : (0 : Int) < (s.length : Int) := by omega
    have hs1 : 0 < s.length := by omega
    have x0 := HVX7.out.cell (k := 0) (by simp)
    have zx0 := blk x0
    clear hs0
    go_wp2_with fail
    refine (l1Once_any b 10 _ HC7.out (by omega) (by omega)).mono ?_
    rintro e W8 ⟨x8, rfl, hc8, hw8⟩
    have hs8 := hw8.size
    have HVX8 := Lib.hid (HVX7.out.wr hw8 (by simp; omega))
    have HVY8 := Lib.hid (HVY7.out.wr hw8 (by simp; omega))
    have HOS8 := Lib.hid (HOS7.out.wr hw8 (fun x hx hm => by have h1 := HOS7.out.ge x hx; have h2 := List.mem_singleton.1 hm; omega))
    have HOT8 := Lib.hid (HOT7.out.wr hw8 (fun x hx hm => by have h1 := HOT7.out.ge x hx; have h2 := List.mem_singleton.1 hm; omega))
    have HC8 := Lib.hid hc8
    have HW8 := Lib.hid (HW7.out.trans (hw8.sub (fun x hx => by rw [List.mem_singleton.1 hx]; simp)))
    have HFTY := Lib.hid (show ∀ x ∈ Ft7, w.heap.size + 2 ≤ x from fun x hx => (HFT7.out x hx).2.2)
    have HTFY := HTF7
    have hTLY := htl
    clear x0 zx0 hc8 hw8 HVX7 HVY7 HOS7 HOT7 HC7 HW7
    cases x8 with
    | false =>
     go_upto_region 12 with fail
     have HXY := HVX8
     have HYY := HVY8
     have HSY := Lib.hid (VS6.out.wr HW8.out (by simp; omega))
     have HTY := Lib.hid (VT6.out.wr HW8.out (by simp; omega))
     have HOSY := HOS8
     have HOTY := HOT8
     have HCY := HC8
     have HWY := Lib.hid (HW6.out.more2 HW8.out (fun x hx => by simp at hx; rcases hx with h | h | h <;> (subst h; simp <;> omega)))
     have HFSY := Lib.hid (show ∀ x ∈ Fs, w.heap.size + 2 ≤ x from fun x hx => by have h1 := (HFS7.out x hx).2; omega)
     have HDY := Lib.hid (show ∀ x ∈ Fs, x ∉ Ft7 from fun x hx => (HFS7.out x hx).1)
     have hWSY : wtStore s ≤ 8001 := by omega
     have x0 := HXY.out.cell (k := 0) (by simp)
     have y0 := HYY.out.cell (k := 0) (by simp)
     have s0 := HSY.out.cell (k := 0) (by simp)
     have t0 := HTY.out.cell (k := 0) (by simp)
     have fs0 := HSY.out.frozen 0
     have ft0 := HTY.out.frozen 0
     have zx0 := blk x0
     have zy0 := blk y0
     have zs0 := blk s0
     have zt0 := blk t0
     go_region
     all_goals
      go_wp2_with fail
      generalize hWF : ((W8.setCell ⟨w.heap.size, 0, none⟩ (.slice as7 s.length cs7)).setCell ⟨w.heap.size + 1, 0, none⟩ (.slice at7 ns7.length ct7)).drew = WF
      have wF : Wr [w.heap.size, w.heap.size + 1] W8 WF := by rw [← hWF]; exact (((Wr.refl [w.heap.size, w.heap.size + 1] W8).setCell (by simp) (.slice as7 s.length cs7)).setCell (by simp) (.slice at7 ns7.length ct7)).gr (Gr.drew (Gr.refl _))
      have sF : VRow WF w.heap.size 32 [.slice as7 s.length cs7] := by rw [← hWF]; exact ((HSY.out.set 0 (.slice as7 s.length cs7)).ne (by omega)).gr (Gr.drew (Gr.refl _))
      have tF : VRow WF (w.heap.size + 1) 38 [.slice at7 ns7.length ct7] := by rw [← hWF]; exact ((HTY.out.ne (by omega)).set 0 (.slice at7 ns7.length ct7)).gr (Gr.drew (Gr.refl _))
      clear hWF
      have r0 := sF.cell (k := 0) (by simp)
      have r1 := tF.cell (k := 0) (by simp)
      exact bodyPost_ret (v := .tuple #[.agg #[.slice as7 s.length cs7], .agg #[.slice at7 ns7.length ct7]]) (by simp [results, Try.results47, go_sem, r0, r1]) rfl ⟨_, _, _, _, _, _, rfl, HOSY.out.wr wF (fun x hx hm => by have h1 := HFSY.out x hx; simp at hm; omega), HOTY.out.wr wF (fun x hx hm => by have h1 := HFTY.out x hx; simp at hm; omega), HDY.out, hWSY, HTFY.out, hTLY, HCY.out.wr wF (fun x hx => by simp at hx; omega), HWY.out.more2 wF (fun x hx => .inr (by simp at hx; omega))⟩
    | true =>
     obtain ⟨g, cap, vj, fpj, ev, hgl, hgw, hgF, hcell, hfz, hOj, hfj, hgn, hvF, hgrow⟩ := HOS8.out.at (i := 0) hs1
     injection ev with ev1 ev2 ev3
     subst ev1 ev3
     clear ev2
     obtain ⟨CH, hCH⟩ : ∃ CH, CH = s[0].2.2 := ⟨_, rfl⟩
     have hCl : CH.length ≤ 8000 := by rw [hCH]; exact (kids_store (M := 8000) (by omega)).2 _ (List.getElem_mem hs1)
     rw [← hCH] at hOj
     obtain ⟨aj, cj, hjf⟩ := hOj.form
     subst hjf
     have e2 : W8.cell? ⟨g, 2, none⟩ = some (.slice aj CH.length cj) := hcell 2 _ rfl
     have fe2 : W8.frozen? ⟨g, 2, none⟩ = false := hfz 2
     have ze2 := blk e2
     have x0 := HVX8.out.cell (k := 0) (by simp)
     have zx0 := blk x0
     have HCHX := Lib.hid hCH
     have HOJ := Lib.hid hOj
     have HGROW := Lib.hid hgrow
     have HVF := Lib.hid hvF
     have HGN := Lib.hid hgn
     have HFJ := Lib.hid hfj
     have HGF := Lib.hid hgF
     have hgb : g ≠ b := by omega
     obtain ⟨OWN, hOWN⟩ : ∃ l, l = (Value.slice aj CH.length cj).ownBlock.toList := ⟨_, rfl⟩
     have hown0 : ∀ c ∈ OWN, W6.heap.size ≤ c ∧ c ∈ Fs := fun c hc => by
      rw [hOWN] at hc
      exact ⟨(HFS7.out c (hvF c hc)).2, hvF c hc⟩
     have HOWN := Lib.hid hOWN
     have HOB := Lib.hid hown0
     have HNO1 := Lib.hid (show W1.heap.size + 1 ∉ b :: OWN from fun hm => by
      rcases List.mem_cons.1 hm with h | h
      ·omega
      ·have := (hown0 _ h).1; omega)
     have HNO2 := Lib.hid (show g ∉ b :: OWN from fun hm => by
      rcases List.mem_cons.1 hm with h | h
      ·omega
      ·rw [hOWN] at h; exact hgn h)
     have HE8 := Lib.hid (Wr.ofNone hE0 (Wr.ofNone hE0 hEg HW6.out) HW8.out)
     clear hcell hfz hOj hgrow hvF hgn hfj hgF hCH hOWN hown0
     have kk0 := fun (w' : World) (h : Wr (b :: OWN) W8 w') => h.keepC x0 HNO1.out
     have kk1 := fun (w' : World) (h : Wr (b :: OWN) W8 w') => h.keepC e2 HNO2.out
     go_wp2_with fail
     refine wp_region_U (fun w' => Wr (b :: OWN) W8 w') 13 (by kernel_rfl) ((gd : Gr W8 W8.drew).toWr (b :: OWN)) (fun hU => ?_)
     refine anyU_q 0 ?_
     try simp only [Act.put, uq1, uq2, uq3]
     refine anyU_q 2 ?_
     try simp only [Act.put, uq1, uq2, uq3]
     refine anyU_q 7 ?_
     try simp only [Act.put, uq1, uq2, uq3]
     refine anyU_q 1 ?_
     try simp only [Act.put, uq1, uq2, uq3]
     refine anyU_q 3 ?_
     try simp only [Act.put, uq1, uq2, uq3]
     refine anyU_q 4 ?_
     try simp only [Act.put, uq1, uq2, uq3]
     refine anyU_q 5 ?_
     try simp only [Act.put, uq1, uq2, uq3]
     refine anyU_q 6 ?_
     try simp only [Act.put, uq1, uq2, uq3]
     refine anyU_ready (rs := [8]) (by kernel_rfl) (by simp) ?_
     refine (ReadyU.cons rfl (fun K hK => ?_) ReadyU.nil)
     go_simp
     go_at_call 52
     refine (l1Below_any b 3 _ (HC8.out.gr gd) (by omega) (by omega)).mono ?_
     rintro e W9 ⟨y, rfl, hy0, hy1, hc9, hw9⟩
     have w89 := ((Gr.drew (Gr.refl W8)).toWr [b]).trans hw9
     have hz89 := w89.size
     have HW89 := Lib.hid w89
     have HC9 := Lib.hid hc9
     have HOS9 := Lib.hid (HOS8.out.wr w89 (fun x hx hm => by have h1 := HOS8.out.ge x hx; have h2 := List.mem_singleton.1 hm; omega))
     obtain ⟨g', cap', vj', fpj', ev', -, -, -, hcell', -, hOj', hfj', hgn', hvF', hgrow'⟩ := HOS9.out.at (i := 0) hs1
     injection ev' with ev1 ev2 ev3
     obtain rfl : g = g' := by injection ev1 with h; injection h
     have e29' := w89.keepC e2 (by simpa using hgb)
     obtain rfl : Value.slice aj CH.length cj = vj' := Option.some.inj (e29'.symm.trans (hcell' 2 _ rfl))
     rw [← HCHX.out] at hOj'
     have HOJ9 := Lib.hid hOj'
     have HGR9 := Lib.hid hgrow'
     clear ev1 ev2 ev3 hcell' hOj' hfj' hgn' hvF' hgrow' e29'
     have HE9 := Lib.hid (Wr.ofNone hE0 HE8.out w89)
     refine hK.out _ _ (w89.sub (fun c hc => by rw [List.mem_singleton.1 hc]; simp)) (fun hU1 => ?_)
     clear hK K hc9 hw9 w89
     try simp only [Act.put, uq1, uq2, uq3]
     refine anyU_ready (rs := [9]) (by kernel_rfl) (by simp) ?_
     refine (ReadyU.cons rfl (fun K hK => ?_) ReadyU.nil)
     go_simp
     refine hK.out _ _ ((HW89.out.gr gd).sub (fun c hc => by rw [List.mem_singleton.1 hc]; simp)) (fun hU2 => ?_)
     clear hK K
     try simp only [Act.put, uq1, uq2, uq3]
     refine anyU_ready (rs := [10]) (by kernel_rfl) (by simp) ?_
     refine (ReadyU.cons rfl (fun K hK => ?_) ReadyU.nil)
     refine step_append_RB (α := Int) (wg := E) (w0 := w) (HE9.out.trans gd) (by omega) (by simp; omega) (by rfl) _ _ _ (by rfl) 3 i0 (.int .i64 0) 8 Try.underlying59 HZ.out.1 HZ.out.2.1 HZ.out.2.2.1 HZ.out.2.2.2 rfl (.slice aj CH.length cj) fpj' CH (by rfl) (HOJ9.out.gr gd) _ [[]] [y] (by rfl) (SrcR.one (w := W9) (by simp) (intRd (wf_small hy0 (by omega)) _)) (fun c _ => by simp) (by unfold maxLen; simp; omega) (by simp; omega) ?_
     intro v10 w10 k1 k2 k3 k4
     have k2' := ((Gr.toWr (show Gr W9 (W9.alloc (.cells #[.int .i64 y] 3)) from gd) (Value.slice aj CH.length cj).ownBlock.toList).trans k2)
     rw [← HOWN.out] at k2'
     have hz10 := k2'.size
     have w810 : Wr (b :: OWN) W8 w10 := (HW89.out.sub (fun c hc => by rw [List.mem_singleton.1 hc]; simp)).trans (k2'.sub (fun c hc => List.mem_cons_of_mem _ hc))
     obtain ⟨vb, vcc, hfo⟩ := k1.form
     subst hfo
     have K1 := Lib.hid k1
     have K2 := Lib.hid k2'
     have K3 := Lib.hid (show (Value.slice vb (CH ++ [y]).length vcc).ownBlock = (Value.slice aj CH.length cj).ownBlock ∨ ∃ n, (Value.slice vb (CH ++ [y]).length vcc).ownBlock = some n ∧ W9.heap.size ≤ n from k3.imp id fun h => ⟨_, h, by simp⟩)
     have W810 := Lib.hid w810
     have e29 := w810.keepC e2 HNO2.out
     have f29 := w810.frozenC fe2 ze2 HNO2.out
     have z29 := blk e29
     clear k1 k2 k3 k4 k2'
     refine hK.out _ _ w810 (fun hU3 => ?_)
     clear hK K w810
     try simp only [Act.put, uq1, uq2, uq3]
     refine anyU_ready (rs := [11]) (by kernel_rfl) (by simp) ?_
     refine (ReadyU.cons rfl (fun K hK => ?_) ReadyU.nil)
     go_simp
     refine hK.out _ _ (by assumption) (fun hU0 => ?_)
     clear hK K hU0
     try simp only [Act.put, uq1, uq2, uq3]
     refine anyU_q 12 ?_
     try simp only [Act.put, uq1, uq2, uq3]
     refine anyU_ready (rs := [13]) (by kernel_rfl) (by simp) ?_
     refine ReadyU.last rfl (fun K hK => ?_)
     go_simp
     refine hK.out _ _ ?_
     clear hK K
     try simp only [Act.put, uq1, uq2, uq3]
     refine anyU_done (by kernel_rfl) ?_ _
     skip
     obtain ⟨FZ, hoZ, hfZ⟩ := HGR9.out w10 _ (CH ++ [y]) (by rw [← HOWN.out]; exact K2.out) K1.out K3.out
     rw [show (Value.slice vb (CH ++ [y]).length vcc) = .slice vb (CH.length + 1) vcc by simp, show (⟨g, 0 * 3 + 2, none⟩ : Addr) = ⟨g, 2, none⟩ from rfl] at hoZ
     have wU : Wr [g] w10 (w10.setCell ⟨g, 2, none⟩ (.slice vb (CH.length + 1) vcc)) := (Wr.refl [g] w10).setCell (List.mem_singleton.2 rfl) _
     generalize w10.setCell ⟨g, 2, none⟩ (.slice vb (CH.length + 1) vcc) = WZ at hoZ wU ⊢
     have hsZ := wU.size
     have hgW6 : W6.heap.size ≤ g := (HFS7.out g HGF.out).2
     have hbs : b < W6.heap.size := by omega
     have wZ : Wr (g :: b :: OWN) W8 WZ := (W810.out.sub (fun c hc => List.mem_cons_of_mem _ hc)).trans (wU.sub (fun x hx => by rw [List.mem_singleton.1 hx]; simp))
     have hin : ∀ x ∈ g :: b :: OWN, x = b ∨ (W6.heap.size ≤ x ∧ x ∈ Fs) := fun x hx => by
      rcases List.mem_cons.1 hx with h | h
      ·exact .inr (by rw [h]; exact ⟨hgW6, HGF.out⟩)
      ·rcases List.mem_cons.1 h with h | h
       ·exact .inl h
       ·exact .inr (HOB.out x h)
     have hnot : ∀ c, c < W6.heap.size → c ≠ b → c ∉ g :: b :: OWN := fun c hc hb hm => by
      rcases hin c hm with h | h
      ·exact hb h
      ·omega
     have HXY := Lib.hid (HVX8.out.wr wZ (hnot _ (by omega) (by omega)))
     have HYY := Lib.hid (HVY8.out.wr wZ (hnot _ (by omega) (by omega)))
     have HSY := Lib.hid ((VS6.out.wr HW8.out (by simp; omega)).wr wZ (hnot _ (by omega) (by omega)))
     have HTY := Lib.hid ((VT6.out.wr HW8.out (by simp; omega)).wr wZ (hnot _ (by omega) (by omega)))
     have HOSY := Lib.hid hoZ
     have HOTY := Lib.hid (HOT8.out.wr wZ (fun x hx hm => by
      rcases hin x hm with h | h
      ·have := HOT8.out.ge x hx; omega
      ·exact (HFS7.out x h.2).1 hx))
     have HCY := Lib.hid (((HC9.out.gr (Gr.refl _)).wr K2.out (fun x hx => by have := (HOB.out x hx).1; omega)).wr wU (fun x hx => by rw [List.mem_singleton.1 hx]; omega))
     have HWY := Lib.hid ((HW6.out.more2 HW8.out (fun x hx => by simp at hx; rcases hx with h | h | h <;> (subst h; simp <;> omega))).more2 wZ (fun x hx => by
      rcases hin x hx with h | h
      ·exact .inl (by rw [h]; simp)
      ·exact .inr (by omega)))
     have HFSY := Lib.hid (show ∀ x ∈ FZ, w.heap.size + 2 ≤ x from fun x hx => by
      rcases hfZ x hx with h | h
      ·have h1 := (HFS7.out x h).2; omega
      ·omega)
     have HDY := Lib.hid (show ∀ x ∈ FZ, x ∉ Ft7 from fun x hx hm => by
      rcases hfZ x hx with h | h
      ·exact (HFS7.out x h).1 hm
      ·have := HOT8.out.lt x hm; omega)
     obtain ⟨sZ, hsZ2⟩ : ∃ sZ, sZ = s.set 0 (s[0].1, s[0].2.1, CH ++ [y]) := ⟨_, rfl⟩
     rw [← hsZ2] at HOSY
     have hlZ : sZ.length = s.length := by rw [hsZ2, List.length_set]
     have hWSY : wtStore sZ ≤ 8001 := by
      have := wt_more s hs1 HCHX.out y
      rw [hsZ2]; omega
     clear hsZ2 hoZ kk0 kk1 e2 fe2 ze2 e29 f29 z29 x0 zx0 hU hU1 hU2 hU3 K1 K2 K3 HGR9 HOJ9 HOJ HGROW HOS8 HOS9 HC9 HW89
     go_upto_region 12 with fail
     have x0 := HXY.out.cell (k := 0) (by simp)
     have y0 := HYY.out.cell (k := 0) (by simp)
     have s0 := HSY.out.cell (k := 0) (by simp)
     have t0 := HTY.out.cell (k := 0) (by simp)
     have fs0 := HSY.out.frozen 0
     have ft0 := HTY.out.frozen 0
     have zx0 := blk x0
     have zy0 := blk y0
     have zs0 := blk s0
     have zt0 := blk t0
     go_region
     all_goals
      go_wp2_with fail
      generalize hWF : ((WZ.setCell ⟨w.heap.size, 0, none⟩ (.slice (some ⟨g, 0, none⟩) s.length cs7)).setCell ⟨w.heap.size + 1, 0, none⟩ (.slice at7 ns7.length ct7)).drew = WF
      have wF : Wr [w.heap.size, w.heap.size + 1] WZ WF := by rw [← hWF]; exact (((Wr.refl [w.heap.size, w.heap.size + 1] WZ).setCell (by simp) (.slice (some ⟨g, 0, none⟩) s.length cs7)).setCell (by simp) (.slice at7 ns7.length ct7)).gr (Gr.drew (Gr.refl _))
      have sF : VRow WF w.heap.size 32 [.slice (some ⟨g, 0, none⟩) s.length cs7] := by rw [← hWF]; exact ((HSY.out.set 0 (.slice (some ⟨g, 0, none⟩) s.length cs7)).ne (by omega)).gr (Gr.drew (Gr.refl _))
      have tF : VRow WF (w.heap.size + 1) 38 [.slice at7 ns7.length ct7] := by rw [← hWF]; exact ((HTY.out.ne (by omega)).set 0 (.slice at7 ns7.length ct7)).gr (Gr.drew (Gr.refl _))
      clear hWF
      have r0 := sF.cell (k := 0) (by simp)
      have r1 := tF.cell (k := 0) (by simp)
      exact bodyPost_ret (v := .tuple #[.agg #[.slice (some ⟨g, 0, none⟩) s.length cs7], .agg #[.slice at7 ns7.length ct7]]) (by simp [results, Try.results47, go_sem, r0, r1]) rfl ⟨_, _, _, _, _, _, rfl, HOSY.out.wr wF (fun x hx hm => by have h1 := HFSY.out x hx; simp at hm; omega), HOTY.out.wr wF (fun x hx hm => by have h1 := HFTY.out x hx; simp at hm; omega), HDY.out, hWSY, HTFY.out, hTLY, HCY.out.wr wF (fun x hx => by simp at hx; omega), HWY.out.more2 wF (fun x hx => .inr (by simp at hx; omega))⟩
end Go.Proofs.Ytmfcagcanhmdbaa
