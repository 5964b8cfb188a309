/- InternTree of the program. ExpandCell of the reference. No condition. -/
import Derived.Test.YtmfcagcanhmdbaaH39
import Derived.Test.YtmfcagcanhmdbaaH41
import Derived.Test.YtmfcagcanhmdbaaH44
import Derived.Test.YtmfcagcanhmdbaaH36
namespace Go.Proofs.Ytmfcagcanhmdbaa
open Go.RowKit
set_option linter.unusedVariables false
set_option linter.unusedSimpArgs false

set_option maxRecDepth 100000 in
set_option maxHeartbeats 8000000 in
theorem implIntern_any {fs : List Nat} {cs : Array Value} (s : GStore) {ft : List Nat} {ct : Array Value} (t : GTree) (i : Int) (w : World) (hs : Rd.rd fs w cs.toList s) (ht : Rd.rd ft w ct.toList t) (hl : wtStore s ≤ 1048576) (hl2 : wtTree t ≤ 1048576) :
  Calls Try.prog 11 #[.agg cs, .agg ct, .int .i64 i] w (ItnPost w (itnOf s t i)) := by
 have HWT := Lib.hid hl
 have HWT2 := Lib.hid hl2
 clear hl hl2
 have HS := Lib.hid hs
 obtain ⟨s0, rfl⟩ : ∃ y, y = s := ⟨s, rfl⟩
 obtain ⟨vs0, fs0, rfl, hfps, hs0⟩ := rdStore_inv s0 hs
 have FPs := Lib.hid hfps
 clear hfps
 obtain ⟨as0, ks0, rfl, os01, os02, os03⟩ := hs0.open
 clear hs
 have HT := Lib.hid ht
 obtain ⟨t0, rfl⟩ : ∃ y, y = t := ⟨t, rfl⟩
 obtain ⟨vt0, ft0, rfl, hfpt, ht0⟩ := rdTree_inv t0 ht
 have FPt := Lib.hid hfpt
 clear hfpt
 obtain ⟨at0, kt0, rfl, ot01, ot02, ot03⟩ := ht0.open
 clear ht
 have HL := Lib.hid (show s0.length ≤ 2097152 ∧ ∀ c ∈ s0, c.2.2.length ≤ 1048576 from ⟨by have := (kids_store HWT.out).1; omega, (kids_store HWT.out).2⟩)
 have HLT := Lib.hid (kids_tree HWT2.out)
 by_cases hv : ValidStore s0
 ·have HB := Lib.hid (validB_true hv)
  by_cases hi : 0 ≤ i ∧ i ≤ (t0.length : Int) - 1
  ·obtain ⟨n, rfl⟩ : ∃ n : Nat, i = n := ⟨i.toNat, by omega⟩
   have hn : n < t0.length := by omega
   have HI := Lib.hid hi
   have HN0 := Lib.hid (itnOf_yes (s := s0) (t := t0) (i := (n : Int)) ⟨hv, hi⟩)
   clear hi hv
   by_cases hg : GoodT t0 n
   ·have HS2 := Lib.hid (goodB_true hg)
    obtain ⟨s', d', k, hN, hk0, hk1, hwt'⟩ := itnN_good (s := s0) hn hg
    have HNN := Lib.hid hN
    have HK := Lib.hid (And.intro hk0 (And.intro hk1 hwt'))
    have HN : Hid (itnOf s0 t0 (n : Int) = (s', k)) := Lib.hid (by rw [HN0.out]; unfold itnN; rw [Int.toNat_natCast, hN])
    clear hg hN hk0 hk1 hwt'
    go_enter Try.func11, Try.ntmps11
    go_wp2_with fail
    refine (copyStore_any s0 _ (Rd.gr HS.out gd) HL.out.1 HL.out.2).mono ?_
    rintro e Wc ⟨v, F, rfl, hO, gC⟩
    obtain ⟨av, cv, hform⟩ := hO.form
    subst hform
    have hF1 := hO.ge
    have hF2 := hO.lt
    have HO := Lib.hid hO
    have HF := Lib.hid (show ∀ b ∈ F, w.heap.size + 3 ≤ b ∧ b < Wc.heap.size from fun b hb => ⟨by have := hF1 b hb; simp at this; omega, hF2 b hb⟩)
    have g1 : Gr w Wc := Gr.trans gd gC
    have cs1 : Wc.cell? ⟨w.heap.size, 0, none⟩ = some (.slice as0 s0.length ks0) := gC.keep (Gr.keep gd (box_cell (A := w) rfl rfl))
    have ct1 : Wc.cell? ⟨w.heap.size + 1, 0, none⟩ = some (.slice at0 t0.length kt0) := gC.keep (Gr.keep gd (box_cell (A := w.alloc (.cells #[.slice as0 s0.length ks0] 32)) (by simp) rfl))
    have vr1 : VRow Wc (w.heap.size + 1 + 1) 32 [.slice none 0 0] := VRow.gr (VRow.new (by simp)) gC
    have sz1 := gC.size
    simp at sz1
    have HG1 := Lib.hid g1
    have HCS1 := Lib.hid cs1
    have HCT1 := Lib.hid ct1
    have HVR1 := Lib.hid vr1
    have zcs1 := blk cs1
    clear hO hF1 hF2 g1 gC vr1
    go_wp2_with fail
    refine (implValid_any _ _ s0 _ (Rd.gr HS.out (HG1.out.trans gd))).mono ?_
    rintro e w' ⟨rfl, x2, rfl⟩
    rw [HB.out]
    generalize hW3 : (Wc.alloc (.cells #[.slice av s0.length cv] 32)).ext x2 = W3
    have g13 : Gr Wc W3 := by rw [← hW3]; exact gd
    have vo3 : VRow W3 Wc.heap.size 32 [.slice av s0.length cv] := by rw [← hW3]; exact (VRow.new (A := Wc) rfl).gr gd
    have HG3 := Lib.hid (HG1.out.trans g13)
    have HO3 := Lib.hid (HO.out.gr g13)
    have HVR3 := Lib.hid (HVR1.out.gr g13)
    have HVO3 := Lib.hid vo3
    have ct3 := g13.keep ct1
    have HCT3 := Lib.hid ct3
    have zct3 := blk ct3
    have vo0 := vo3.box
    have zvo0 := blk vo0
    have vr0 := HVR3.out.box
    have zvr0 := blk vr0
    have fvr0 := HVR3.out.frozen 0
    have fvo0 := vo3.frozen 0
    have sz3 := g13.size
    clear hW3 g13 vo3 cs1 ct1 zcs1
    go_wp2_with fail
    refine (nodeIn_yes t0 _ _ (Rd.gr HT.out (HG3.out.trans gd)) HI.out.1 HI.out.2).mono ?_
    rintro e w' ⟨rfl, x3, rfl⟩
    go_wp2_with fail
    refine (sound_any t0 n hn HLT.out.1 _ (Rd.gr HT.out (HG3.out.trans gd))).mono ?_
    rintro e w' ⟨rfl, x4, rfl⟩
    rw [HS2.out]
    go_wp2_with fail
    generalize hW4 : (W3.ext x3).ext x4 = W4
    have g34 : Gr W3 W4 := by rw [← hW4]; exact gd
    have HG4 := Lib.hid (HG3.out.trans g34)
    have HO4 := Lib.hid ((HO3.out.lower (w0 := w) (by simp <;> omega)).gr g34)
    have HVR4 := Lib.hid (HVR3.out.gr g34)
    have HVO4 := Lib.hid (HVO3.out.gr g34)
    have ct4 := g34.keep ct3
    have HCT4 := Lib.hid ct4
    have sz4 := g34.size
    have sz5 := HVO3.out.lt
    have HRT := Lib.hid (Rd.gr HT.out HG4.out)
    have htl := HLT.out.1
    clear hW4 g34 vo0 zvo0 vr0 zvr0 fvr0 fvo0 ct3 zct3
    have i0' : (0 : Int) ≤ (n : Int) := by omega
    have kk0 := fun (w' : World) (h : Gr w w' ∧ w'.cell? ⟨w.heap.size + 1, 0, none⟩ = some (.slice at0 t0.length kt0)) => h.2
    refine wp_region_U (fun w' => Gr w w' ∧ w'.cell? ⟨w.heap.size + 1, 0, none⟩ = some (.slice at0 t0.length kt0)) 8 (by kernel_rfl) (⟨HG4.out.drew, ct4⟩) (fun hU => ?_)
    refine anyU_q 0 ?_
    try simp only [Act.put, uq1, uq2, uq3]
    refine anyU_q 1 ?_
    try simp only [Act.put, uq1, uq2, uq3]
    refine anyU_q 3 ?_
    try simp only [Act.put, uq1, uq2, uq3]
    refine anyU_q 4 ?_
    try simp only [Act.put, uq1, uq2, uq3]
    refine anyU_q 5 ?_
    try simp only [Act.put, uq1, uq2, uq3]
    refine anyU_ready (rs := [2]) (by kernel_rfl) (by simp) ?_
    refine (ReadyU.cons rfl (fun K hK => ?_) ReadyU.nil)
    go_simp
    refine hK.out _ _ ⟨HG4.out.trans gd, (gd : Gr W4 (W4.drew.alloc (.cells #[.int .i64 (-1)] 3))).keep HCT4.out⟩ (fun hU1 => ?_)
    clear hK K
    try simp only [Act.put, uq1, uq2, uq3]
    refine anyU_ready (rs := [6]) (by kernel_rfl) (by simp) ?_
    refine (ReadyU.cons rfl (fun K hK => ?_) ReadyU.nil)
    go_simp
    go_at_call 40
    refine (repeatOne_any (-1) (by decide) t0.length HLT.out.1 W4.heap.size 0 1 _ (box_cell (A := W4.drew) (by simp) rfl)).mono ?_
    rintro e W5 ⟨cb, cp, rfl, hcp, hvc, hcb, g5⟩
    have g45 : Gr W4 W5 := Gr.trans gd g5
    have hvc' : IRow W5 cb 3 (List.replicate t0.length (-1)) := by
     have h := hvc
     unfold IRow
     simpa [repV] using h
    have HVC5 := Lib.hid hvc'
    have HG45 := Lib.hid g45
    have hcb' : W4.heap.size + 1 ≤ cb := by simpa using hcb
    have sz6 := g45.size
    clear hvc hvc' g5 hcb
    refine hK.out _ _ ⟨HG4.out.trans g45, g45.keep HCT4.out⟩ (fun hU2 => ?_)
    clear hK K g45
    try simp only [Act.put, uq1, uq2, uq3]
    refine anyU_ready (rs := [7]) (by kernel_rfl) (by simp) ?_
    refine (ReadyU.cons rfl (fun K hK => ?_) ReadyU.nil)
    go_simp
    go_at_call 39
    refine (intern_any t0 HLT.out.1 HLT.out.2 Wc.heap.size cb (by omega) w (by omega) (by omega) t0.length n ft _ (.slice av s0.length cv) cp F s0 (List.replicate t0.length (-1)) s' d' k _ (Rd.gr HRT.out HG45.out) (fun b hb => Rd.lt HT.out b hb) hn (HG4.out.trans HG45.out) (HVO4.out.gr HG45.out) HVC5.out (HO4.out.gr HG45.out) (fun hm => by have := (HF.out _ hm).2; omega) (fun hm => by have := (HF.out _ hm).2; omega) (by simp) (by rw [pot_start]; have := HWT.out; have := HWT2.out; omega) (fun y hy => by rw [(List.mem_replicate.1 hy).2]; omega) HNN.out).mono ?_
    rintro e W6 ⟨v6, F6, rfl, g6, wr6, vx6, vc6, o6, hF6⟩
    have HWR6 := Lib.hid wr6
    have HG6 := Lib.hid g6
    have HVX6 := Lib.hid vx6
    have HO6 := Lib.hid o6
    have hn6 : ∀ x, x < Wc.heap.size → x < w.heap.size + 3 → x ∉ Wc.heap.size :: cb :: F := fun x h1 h2 hm => by
     rcases List.mem_cons.1 hm with h | h
     ·omega
     ·rcases List.mem_cons.1 h with h | h
      ·omega
      ·have := HF.out _ h; omega
    have HN6 := Lib.hid hn6
    have HVR6 := Lib.hid ((HVR4.out.gr HG45.out).wr wr6 (hn6 _ (by omega) (by omega)))
    have ct6 := wr6.keepC (HG45.out.keep HCT4.out) (hn6 _ (by omega) (by omega))
    have hs6 := wr6.size
    have HF6 := Lib.hid (show ∀ b ∈ F6, b ≠ w.heap.size + 1 + 1 from fun b hb => by
     rcases hF6 b hb with h | h
     ·have := HF.out b h; omega
     ·omega)
    clear wr6 vx6 vc6 o6 hF6 hn6
    refine hK.out _ _ ⟨g6, ct6⟩ (fun hU3 => ?_)
    clear hK K g6 ct6
    try simp only [Act.put, uq1, uq2, uq3]
    refine anyU_ready (rs := [8]) (by kernel_rfl) (by simp) ?_
    refine ReadyU.last rfl (fun K hK => ?_)
    go_simp
    refine hK.out _ _ ?_
    clear hK K
    try simp only [Act.put, uq1, uq2, uq3]
    refine anyU_done (by kernel_rfl) ?_ _
    have hs0 : s'.length ≤ 2097152 := by
     have h1 := HK.out.2.2
     have h2 := HWT.out
     have h3 := HWT2.out
     have h4 := wtL_len wtCell s'
     have h5 : wtStore s' = wtL wtCell s' := rfl
     omega
    obtain ⟨a6, c6, hform⟩ := HO6.out.form
    subst hform
    have x6 := HVX6.out.box
    have zx6 := blk x6
    have r6 := HVR6.out.box
    have zr6 := blk r6
    have fr6 := HVR6.out.frozen 0
    clear hU hU1 hU2 hU3 kk0 ct4
    go_wp2_with fail
    generalize hWF : W6.setCell ⟨w.heap.size + 1 + 1, 0, none⟩ (.slice a6 s'.length c6) = WF
    have vF : VRow WF (w.heap.size + 1 + 1) 32 [.slice a6 s'.length c6] := by rw [← hWF]; exact HVR6.out.set 0 _
    have gF : Gr w WF := by rw [← hWF]; exact Gr.setCell (p := ⟨w.heap.size + 1 + 1, 0, none⟩) HG6.out (by show _ ≤ w.heap.size + 1 + 1; omega) _
    have oF : OwnC w WF (.slice a6 s'.length c6) F6 s' := by rw [← hWF]; exact HO6.out.wr ((Wr.refl [w.heap.size + 1 + 1] _).setCell (List.mem_singleton.2 rfl) _) (fun b hb hm => HF6.out b hb (List.mem_singleton.1 hm))
    obtain ⟨fq, h1, h2, -⟩ := oF.read (by unfold reachLen; omega)
    have r0' := vF.box
    clear hWF vF oF
    exact bodyPost_ret (v := .tuple #[.agg #[.slice a6 s'.length c6], .int .i64 k]) (by simp [results, Try.results11, go_sem, r0']) rfl ⟨#[.slice a6 s'.length c6], fq, by rw [HN.out], by rw [HN.out]; exact rdStore_mk s' h1, h2, gF⟩
   ·have HS2 := Lib.hid (goodB_false hg)
    have HN : Hid (itnOf s0 t0 (n : Int) = (s0, -1)) := Lib.hid (by rw [HN0.out]; unfold itnN; rw [Int.toNat_natCast, itnN_bad hn hg])
    clear hg
    go_enter Try.func11, Try.ntmps11
    go_wp2_with fail
    refine (copyStore_any s0 _ (Rd.gr HS.out gd) HL.out.1 HL.out.2).mono ?_
    rintro e Wc ⟨v, F, rfl, hO, gC⟩
    obtain ⟨av, cv, hform⟩ := hO.form
    subst hform
    have hF1 := hO.ge
    have hF2 := hO.lt
    have HO := Lib.hid hO
    have HF := Lib.hid (show ∀ b ∈ F, w.heap.size + 3 ≤ b ∧ b < Wc.heap.size from fun b hb => ⟨by have := hF1 b hb; simp at this; omega, hF2 b hb⟩)
    have g1 : Gr w Wc := Gr.trans gd gC
    have cs1 : Wc.cell? ⟨w.heap.size, 0, none⟩ = some (.slice as0 s0.length ks0) := gC.keep (Gr.keep gd (box_cell (A := w) rfl rfl))
    have ct1 : Wc.cell? ⟨w.heap.size + 1, 0, none⟩ = some (.slice at0 t0.length kt0) := gC.keep (Gr.keep gd (box_cell (A := w.alloc (.cells #[.slice as0 s0.length ks0] 32)) (by simp) rfl))
    have vr1 : VRow Wc (w.heap.size + 1 + 1) 32 [.slice none 0 0] := VRow.gr (VRow.new (by simp)) gC
    have sz1 := gC.size
    simp at sz1
    have HG1 := Lib.hid g1
    have HCS1 := Lib.hid cs1
    have HCT1 := Lib.hid ct1
    have HVR1 := Lib.hid vr1
    have zcs1 := blk cs1
    clear hO hF1 hF2 g1 gC vr1
    go_wp2_with fail
    refine (implValid_any _ _ s0 _ (Rd.gr HS.out (HG1.out.trans gd))).mono ?_
    rintro e w' ⟨rfl, x2, rfl⟩
    rw [HB.out]
    generalize hW3 : (Wc.alloc (.cells #[.slice av s0.length cv] 32)).ext x2 = W3
    have g13 : Gr Wc W3 := by rw [← hW3]; exact gd
    have vo3 : VRow W3 Wc.heap.size 32 [.slice av s0.length cv] := by rw [← hW3]; exact (VRow.new (A := Wc) rfl).gr gd
    have HG3 := Lib.hid (HG1.out.trans g13)
    have HO3 := Lib.hid (HO.out.gr g13)
    have HVR3 := Lib.hid (HVR1.out.gr g13)
    have HVO3 := Lib.hid vo3
    have ct3 := g13.keep ct1
    have HCT3 := Lib.hid ct3
    have zct3 := blk ct3
    have vo0 := vo3.box
    have zvo0 := blk vo0
    have vr0 := HVR3.out.box
    have zvr0 := blk vr0
    have fvr0 := HVR3.out.frozen 0
    have fvo0 := vo3.frozen 0
    have sz3 := g13.size
    clear hW3 g13 vo3 cs1 ct1 zcs1
    go_wp2_with fail
    refine (nodeIn_yes t0 _ _ (Rd.gr HT.out (HG3.out.trans gd)) HI.out.1 HI.out.2).mono ?_
    rintro e w' ⟨rfl, x3, rfl⟩
    go_wp2_with fail
    refine (sound_any t0 n hn HLT.out.1 _ (Rd.gr HT.out (HG3.out.trans gd))).mono ?_
    rintro e w' ⟨rfl, x4, rfl⟩
    rw [HS2.out]
    go_wp2_with fail
    generalize hWF : ((W3.setCell ⟨w.heap.size + 1 + 1, 0, none⟩ (.slice av s0.length cv)).ext x3).ext x4 = WF
    have gX : Gr (W3.setCell ⟨w.heap.size + 1 + 1, 0, none⟩ (.slice av s0.length cv)) WF := by rw [← hWF]; exact gd
    have vF : VRow WF (w.heap.size + 1 + 1) 32 [.slice av s0.length cv] := (HVR3.out.set 0 _).gr gX
    have gF : Gr w WF := (Gr.setCell (p := ⟨w.heap.size + 1 + 1, 0, none⟩) HG3.out (by show _ ≤ w.heap.size + 1 + 1; omega) _).trans gX
    obtain ⟨fq, h1, h2, -⟩ := ((HO3.out.wr ((Wr.refl [w.heap.size + 1 + 1] _).setCell (v := .slice av s0.length cv) (List.mem_singleton.2 rfl)) (fun b hb hm => by have := HF.out b hb; have h3 := List.mem_singleton.1 hm; omega)).gr gX).read (by have := HL.out.1; unfold reachLen; omega)
    have r0' := vF.box
    have h3 : Fresh w fq := h2.of_le (by simp; omega)
    clear hWF vF gX h2
    exact bodyPost_ret (v := .tuple #[.agg #[.slice av s0.length cv], .int .i64 (-1)]) (by simp [results, Try.results11, go_sem, r0']) rfl ⟨#[.slice av s0.length cv], fq, by rw [HN.out], by rw [HN.out]; exact rdStore_mk s0 h1, h3, gF⟩
  ·have HN : Hid (itnOf s0 t0 i = (s0, -1)) := Lib.hid (itnOf_no fun h => hi h.2)
   have HI : Hid (i < 0 ∨ (t0.length : Int) - 1 < i) := Lib.hid (by omega)
   clear hi hv
   go_enter Try.func11, Try.ntmps11
   go_wp2_with fail
   refine (copyStore_any s0 _ (Rd.gr HS.out gd) HL.out.1 HL.out.2).mono ?_
   rintro e Wc ⟨v, F, rfl, hO, gC⟩
   obtain ⟨av, cv, hform⟩ := hO.form
   subst hform
   have hF1 := hO.ge
   have hF2 := hO.lt
   have HO := Lib.hid hO
   have HF := Lib.hid (show ∀ b ∈ F, w.heap.size + 3 ≤ b ∧ b < Wc.heap.size from fun b hb => ⟨by have := hF1 b hb; simp at this; omega, hF2 b hb⟩)
   have g1 : Gr w Wc := Gr.trans gd gC
   have cs1 : Wc.cell? ⟨w.heap.size, 0, none⟩ = some (.slice as0 s0.length ks0) := gC.keep (Gr.keep gd (box_cell (A := w) rfl rfl))
   have ct1 : Wc.cell? ⟨w.heap.size + 1, 0, none⟩ = some (.slice at0 t0.length kt0) := gC.keep (Gr.keep gd (box_cell (A := w.alloc (.cells #[.slice as0 s0.length ks0] 32)) (by simp) rfl))
   have vr1 : VRow Wc (w.heap.size + 1 + 1) 32 [.slice none 0 0] := VRow.gr (VRow.new (by simp)) gC
   have sz1 := gC.size
   simp at sz1
   have HG1 := Lib.hid g1
   have HCS1 := Lib.hid cs1
   have HCT1 := Lib.hid ct1
   have HVR1 := Lib.hid vr1
   have zcs1 := blk cs1
   clear hO hF1 hF2 g1 gC vr1
   go_wp2_with fail
   refine (implValid_any _ _ s0 _ (Rd.gr HS.out (HG1.out.trans gd))).mono ?_
   rintro e w' ⟨rfl, x2, rfl⟩
   rw [HB.out]
   generalize hW3 : (Wc.alloc (.cells #[.slice av s0.length cv] 32)).ext x2 = W3
   have g13 : Gr Wc W3 := by rw [← hW3]; exact gd
   have vo3 : VRow W3 Wc.heap.size 32 [.slice av s0.length cv] := by rw [← hW3]; exact (VRow.new (A := Wc) rfl).gr gd
   have HG3 := Lib.hid (HG1.out.trans g13)
   have HO3 := Lib.hid (HO.out.gr g13)
   have HVR3 := Lib.hid (HVR1.out.gr g13)
   have HVO3 := Lib.hid vo3
   have ct3 := g13.keep ct1
   have HCT3 := Lib.hid ct3
   have zct3 := blk ct3
   have vo0 := vo3.box
   have zvo0 := blk vo0
   have vr0 := HVR3.out.box
   have zvr0 := blk vr0
   have fvr0 := HVR3.out.frozen 0
   have fvo0 := vo3.frozen 0
   have sz3 := g13.size
   clear hW3 g13 vo3 cs1 ct1 zcs1
   go_wp2_with fail
   refine (nodeIn_no t0 _ _ (Rd.gr HT.out (HG3.out.trans gd)) HI.out).mono ?_
   rintro e w' ⟨rfl, x3, rfl⟩
   go_wp2_with fail
   generalize hWF : (W3.setCell ⟨w.heap.size + 1 + 1, 0, none⟩ (.slice av s0.length cv)).ext x3 = WF
   have gX : Gr (W3.setCell ⟨w.heap.size + 1 + 1, 0, none⟩ (.slice av s0.length cv)) WF := by rw [← hWF]; exact gd
   have vF : VRow WF (w.heap.size + 1 + 1) 32 [.slice av s0.length cv] := (HVR3.out.set 0 _).gr gX
   have gF : Gr w WF := (Gr.setCell (p := ⟨w.heap.size + 1 + 1, 0, none⟩) HG3.out (by show _ ≤ w.heap.size + 1 + 1; omega) _).trans gX
   obtain ⟨fq, h1, h2, -⟩ := ((HO3.out.wr ((Wr.refl [w.heap.size + 1 + 1] _).setCell (v := .slice av s0.length cv) (List.mem_singleton.2 rfl)) (fun b hb hm => by have := HF.out b hb; have h3 := List.mem_singleton.1 hm; omega)).gr gX).read (by have := HL.out.1; unfold reachLen; omega)
   have r0' := vF.box
   have h3 : Fresh w fq := h2.of_le (by simp; omega)
   clear hWF vF gX h2
   exact bodyPost_ret (v := .tuple #[.agg #[.slice av s0.length cv], .int .i64 (-1)]) (by simp [results, Try.results11, go_sem, r0']) rfl ⟨#[.slice av s0.length cv], fq, by rw [HN.out], by rw [HN.out]; exact rdStore_mk s0 h1, h3, gF⟩
 ·have HN : Hid (itnOf s0 t0 i = (s0, -1)) := Lib.hid (itnOf_no fun h => hv h.1)
  have HB := Lib.hid (validB_false hv)
  clear hv
  go_enter Try.func11, Try.ntmps11
  go_wp2_with fail
  refine (copyStore_any s0 _ (Rd.gr HS.out gd) HL.out.1 HL.out.2).mono ?_
  rintro e Wc ⟨v, F, rfl, hO, gC⟩
  obtain ⟨av, cv, hform⟩ := hO.form
  subst hform
  have hF1 := hO.ge
  have hF2 := hO.lt
  have HO := Lib.hid hO
  have HF := Lib.hid (show ∀ b ∈ F, w.heap.size + 3 ≤ b ∧ b < Wc.heap.size from fun b hb => ⟨by have := hF1 b hb; simp at this; omega, hF2 b hb⟩)
  have g1 : Gr w Wc := Gr.trans gd gC
  have cs1 : Wc.cell? ⟨w.heap.size, 0, none⟩ = some (.slice as0 s0.length ks0) := gC.keep (Gr.keep gd (box_cell (A := w) rfl rfl))
  have ct1 : Wc.cell? ⟨w.heap.size + 1, 0, none⟩ = some (.slice at0 t0.length kt0) := gC.keep (Gr.keep gd (box_cell (A := w.alloc (.cells #[.slice as0 s0.length ks0] 32)) (by simp) rfl))
  have vr1 : VRow Wc (w.heap.size + 1 + 1) 32 [.slice none 0 0] := VRow.gr (VRow.new (by simp)) gC
  have sz1 := gC.size
  simp at sz1
  have HG1 := Lib.hid g1
  have HCS1 := Lib.hid cs1
  have HCT1 := Lib.hid ct1
  have HVR1 := Lib.hid vr1
  have zcs1 := blk cs1
  clear hO hF1 hF2 g1 gC vr1
  go_wp2_with fail
  refine (implValid_any _ _ s0 _ (Rd.gr HS.out (HG1.out.trans gd))).mono ?_
  rintro e w' ⟨rfl, x2, rfl⟩
  rw [HB.out]
  generalize hW3 : (Wc.alloc (.cells #[.slice av s0.length cv] 32)).ext x2 = W3
  have g13 : Gr Wc W3 := by rw [← hW3]; exact gd
  have vo3 : VRow W3 Wc.heap.size 32 [.slice av s0.length cv] := by rw [← hW3]; exact (VRow.new (A := Wc) rfl).gr gd
  have HG3 := Lib.hid (HG1.out.trans g13)
  have HO3 := Lib.hid (HO.out.gr g13)
  have HVR3 := Lib.hid (HVR1.out.gr g13)
  have HVO3 := Lib.hid vo3
  have ct3 := g13.keep ct1
  have HCT3 := Lib.hid ct3
  have zct3 := blk ct3
  have vo0 := vo3.box
  have zvo0 := blk vo0
  have vr0 := HVR3.out.box
  have zvr0 := blk vr0
  have fvr0 := HVR3.out.frozen 0
  have fvo0 := vo3.frozen 0
  have sz3 := g13.size
  clear hW3 g13 vo3 cs1 ct1 zcs1
  go_wp2_with fail
  generalize hWF : W3.setCell ⟨w.heap.size + 1 + 1, 0, none⟩ (.slice av s0.length cv) = WF
  have gX : Gr (W3.setCell ⟨w.heap.size + 1 + 1, 0, none⟩ (.slice av s0.length cv)) WF := by rw [← hWF]; exact gd
  have vF : VRow WF (w.heap.size + 1 + 1) 32 [.slice av s0.length cv] := (HVR3.out.set 0 _).gr gX
  have gF : Gr w WF := (Gr.setCell (p := ⟨w.heap.size + 1 + 1, 0, none⟩) HG3.out (by show _ ≤ w.heap.size + 1 + 1; omega) _).trans gX
  obtain ⟨fq, h1, h2, -⟩ := ((HO3.out.wr ((Wr.refl [w.heap.size + 1 + 1] _).setCell (v := .slice av s0.length cv) (List.mem_singleton.2 rfl)) (fun b hb hm => by have := HF.out b hb; have h3 := List.mem_singleton.1 hm; omega)).gr gX).read (by have := HL.out.1; unfold reachLen; omega)
  have r0' := vF.box
  have h3 : Fresh w fq := h2.of_le (by simp; omega)
  clear hWF vF gX h2
  exact bodyPost_ret (v := .tuple #[.agg #[.slice av s0.length cv], .int .i64 (-1)]) (by simp [results, Try.results11, go_sem, r0']) rfl ⟨#[.slice av s0.length cv], fq, by rw [HN.out], by rw [HN.out]; exact rdStore_mk s0 h1, h3, gF⟩
end Go.Proofs.Ytmfcagcanhmdbaa

namespace Go.Proofs.Ytmfcagcanhmdbaa
open Go.RowKit
set_option linter.unusedVariables false
set_option linter.unusedSimpArgs false

def FoundT (w : World) (o : Option (List GNode)) (e : Ending) (w' : World) : Prop :=
 ∃ es fq, e = .returned (.tuple #[.agg es, .bool o.isSome]) ∧ Rd.rd (α := GTree) fq w' es.toList (o.getD []) ∧ Fresh w fq ∧ Gr w w'

end Go.Proofs.Ytmfcagcanhmdbaa
