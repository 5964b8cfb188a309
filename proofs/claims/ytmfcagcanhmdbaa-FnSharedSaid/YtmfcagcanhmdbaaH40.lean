/- A subtree interned: the reference's. No condition. -/
import Derived.Test.YtmfcagcanhmdbaaH39
namespace Go.Proofs.Ytmfcagcanhmdbaa
open Go.RowKit
set_option linter.unusedVariables false
set_option linter.unusedSimpArgs false

def InSPost (rest : List Value) (cb : Nat) (w0 w : World) (fs : List Nat) (R : Option (GStore × List Int × Int)) (e : Ending) (w' : World) : Prop :=
 ∃ a n c y d', e = .returned (.tuple #[.agg #[.slice a n c], .int .i64 y]) ∧ Gr w0 w' ∧ Wr [cb] w w' ∧ DRow rest w' cb d' ∧ (R = none → y = -1) ∧
  ∀ s'' d'' y'', R = some (s'', d'', y'') → y = y'' ∧ d' = d'' ∧ ∃ fs', SlR fs' w' (.slice a n c) s'' ∧ ∀ b ∈ fs', b ∈ fs ∨ w.heap.size ≤ b

set_option maxRecDepth 100000 in
set_option maxHeartbeats 16000000 in
theorem l39Intern_any (t : List GNode) (htl : t.length ≤ 1048576) (htk : ∀ x ∈ t, (kidsN x).length ≤ 1048576) (rest : List Value) (cb : Nat) (w0 : World) (hcb : w0.heap.size ≤ cb) :
  ∀ (f i : Nat) (ft : List Nat) (ct : Array Value) (fs : List Nat) (cs : Array Value) (cp : Nat) (s : GStore) (d : List Int) (w : World) (ht : Rd.rd ft w ct.toList t) (hs : Rd.rd fs w cs.toList s) (hft : ∀ b ∈ ft, b < w0.heap.size) (hfs : cb ∉ fs) (hlt : i < t.length) (hf : t.length - i ≤ f) (hg : Gr w0 w) (hvc : DRow rest w cb d) (hdl : d.length = t.length) (hwt : wtStore s + pot t d ≤ 2097152) (hbd : ∀ y ∈ d, y < (s.length : Int)),
  Calls Try.prog 33 #[.agg cs, .agg ct, .int .i64 (i : Int), .slice (some ⟨cb, 0, none⟩) t.length cp] w (InSPost rest cb w0 w fs (inN t f s d i)) := by
 intro f
 induction f with
 | zero => intro i ft ct fs cs cp s d w ht hs hft hfs hlt hf; omega
 | succ f ih =>
  intro i ft ct fs cs cp s d w ht hs hft hfs hlt hf hg hvc hdl hwt hbd
  obtain ⟨i0, hi, hz0, hz1, hz2⟩ := info_parts Try.infoIntC
  have HZ := Lib.hid (And.intro hi (And.intro hz0 (And.intro hz1 hz2)))
  clear hi hz0 hz1 hz2
  obtain ⟨iC, hi, hz0, hz1, hz2⟩ := info_parts Try.infoCell
  have HZC := Lib.hid (And.intro hi (And.intro hz0 (And.intro hz1 hz2)))
  clear hi hz0 hz1 hz2
  have HIH := Lib.hid ih
  have HTK := Lib.hid htk
  have HFT := Lib.hid hft
  have HFS := Lib.hid hfs
  have HG0 := Lib.hid hg
  have HVC := Lib.hid hvc
  have HDL := Lib.hid hdl
  have HWT := Lib.hid hwt
  have HBD := Lib.hid hbd
  have HFU := Lib.hid hf
  have hid : i < d.length := by omega
  obtain ⟨y0, hy0⟩ : ∃ y, d[i]? = some y := ⟨_, List.getElem?_eq_getElem hid⟩
  have HY0 := Lib.hid hy0
  have hcl : cb < w.heap.size := hvc.lt
  have hgs := hg.size
  have c1 : w.cell? ⟨cb, i, none⟩ = some (.int .i64 y0) := by
   have h1 := hvc.cell hid
   rw [List.getElem?_eq_getElem hid] at hy0
   rw [← Option.some.inj hy0]
   exact h1
  have zc1 := blk c1
  have i0' : (0 : Int) ≤ (i : Int) := by omega
  have i1' : (i : Int) < (t.length : Int) := by omega
  clear ih htk hft hfs hvc hdl hwt hbd hid hy0 hf
  have HT := Lib.hid ht
  obtain ⟨t0, rfl⟩ : ∃ y, y = t := ⟨t, rfl⟩
  obtain ⟨vt0, ft0, rfl, hfpt, ht0⟩ := rdTree_inv t0 ht
  have FPt := Lib.hid hfpt
  clear hfpt
  obtain ⟨at0, kt0, rfl, ot01, ot02, ot03⟩ := ht0.open
  clear ht
  have HS := Lib.hid hs
  obtain ⟨s0, rfl⟩ : ∃ y, y = s := ⟨s, rfl⟩
  obtain ⟨vs0, fs0, rfl, hfps, hs0⟩ := rdStore_inv s0 hs
  have FPs := Lib.hid hfps
  clear hfps
  obtain ⟨as0, ks0, rfl, os01, os02, os03⟩ := hs0.open
  clear hs
  obtain ⟨R, hR⟩ : ∃ R, R = inN t0 (f + 1) s0 d i := ⟨_, rfl⟩
  rw [← hR]
  have HR := Lib.hid hR
  clear hR
  by_cases hpos : 0 ≤ y0
  ·have hr := HR.out
   rw [inN_done HY0.out hpos] at hr
   have HRR := Lib.hid hr
   clear hr
   go_enter Try.func33, Try.ntmps33
   go_wp2_with fail
   generalize hW1 : ((w.alloc (.cells #[.slice as0 s0.length ks0] 32)).alloc (.cells #[.slice at0 t0.length kt0] 38)).alloc (.cells #[.slice none 0 0] 32) = W1
   have g1 : Gr w W1 := by rw [← hW1]; exact gd
   have cs1 : W1.cell? ⟨w.heap.size, 0, none⟩ = some (.slice as0 s0.length ks0) := by rw [← hW1]; exact Gr.keep gd (box_cell (A := w) rfl rfl)
   have vr1 : VRow W1 (w.heap.size + 1 + 1) 32 [.slice none 0 0] := by
    rw [← hW1]
    exact VRow.new (by simp)
   have HG1 := Lib.hid g1
   have HVR1 := Lib.hid vr1
   have c1' := g1.keep c1
   have x1 := vr1.box
   have zx1 := blk x1
   have fx1 := vr1.frozen 0
   have s1 : W1.heap.size = w.heap.size + 3 := by rw [← hW1]; simp
   clear hW1 vr1 g1 zc1 c1
   have kk0 := fun (w' : World) (h : Wr [w.heap.size + 1 + 1] W1 w') => h.keepC cs1 (by simp; omega)
   have kk1 := fun (w' : World) (h : Wr [w.heap.size + 1 + 1] W1 w') => h.keepC c1' (by simp; omega)
   refine wp_region_U (fun w' => Wr [w.heap.size + 1 + 1] W1 w') 6 (by kernel_rfl) ((Gr.drew (Gr.refl W1)).toWr _) (fun hU => ?_)
   refine anyU_q 0 ?_
   try simp only [Act.put, uq1, uq2, uq3]
   refine anyU_q 1 ?_
   try simp only [Act.put, uq1, uq2, uq3]
   refine anyU_q 2 ?_
   try simp only [Act.put, uq1, uq2, uq3]
   refine anyU_q 3 ?_
   try simp only [Act.put, uq1, uq2, uq3]
   refine anyU_q 4 ?_
   try simp only [Act.put, uq1, uq2, uq3]
   refine anyU_ready (rs := [5]) (by kernel_rfl) (by simp) ?_
   refine (ReadyU.cons rfl (fun K hK => ?_) ReadyU.nil)
   go_simp
   refine hK.out _ _ (((Gr.drew (Gr.refl W1)).toWr _).setCell (by simp) _) (fun hU1 => ?_)
   clear hK K
   try simp only [Act.put, uq1, uq2, uq3]
   refine anyU_ready (rs := [6]) (by kernel_rfl) (by simp) ?_
   refine ReadyU.last rfl (fun K hK => ?_)
   go_simp
   refine hK.out _ _ ?_
   clear hK K
   try simp only [Act.put, uq1, uq2, uq3]
   refine anyU_done (by kernel_rfl) ?_ _
   skip
   go_wp2_with fail
   generalize hWF : (W1.setCell ⟨w.heap.size + 1 + 1, 0, none⟩ (.slice as0 s0.length ks0)).drew = WF
   have vF : VRow WF (w.heap.size + 1 + 1) 32 [.slice as0 s0.length ks0] := by rw [← hWF]; exact (HVR1.out.set 0 _).gr (Gr.drew (Gr.refl _))
   have gF : Gr w WF := by rw [← hWF]; exact (HG1.out.setCell (p := ⟨w.heap.size + 1 + 1, 0, none⟩) (by simp <;> omega) _).trans (Gr.drew (Gr.refl _))
   have r0' := vF.box
   clear hWF vF
   refine bodyPost_ret (v := .tuple #[.agg #[.slice as0 s0.length ks0], .int .i64 y0]) (by simp [results, Try.results33, go_sem, r0']) rfl ⟨as0, s0.length, ks0, y0, d, rfl, HG0.out.trans gF, gF.toWr _, VRow.gr HVC.out gF, fun h => ?_, fun s'' d'' y'' h => ?_⟩
   ·rw [HRR.out] at h; cases h
   ·rw [HRR.out] at h
    simp only [Option.some.injEq, Prod.mk.injEq] at h
    obtain ⟨e1, e2, e3⟩ := h
    refine ⟨e3, e2, fs0, ?_, fun b hb => .inl (by rw [FPs.out]; exact hb)⟩
    rw [← e1]
    exact hs0.gr gF
  ·skip
   obtain ⟨b, off, rfl, hbb⟩ := ot03 i hlt
   obtain ⟨csq, feq, hcq, hrq, hsub⟩ := ht0.at hlt
   obtain ⟨yq, hyq⟩ : ∃ y, y = t0[i] := ⟨_, rfl⟩
   rw [← hyq] at hrq
   have HYq := Lib.hid hyq
   have HRq := Lib.hid hrq
   obtain ⟨q0, q1, q2, q3, q4, q5⟩ := yq
   obtain ⟨vq5, fq5, hcsq, hfpq, hq0, hq1, hq2, hq3, hq4, hq5⟩ := rdNode_inv (cs := csq.toArray) q0 q1 q2 q3 q4 q5 (by simpa using hrq)
   obtain rfl : csq = [.int .i64 q0, .int .i64 q1, .int .i64 q2, .int .i64 q3, .string q4, vq5] := by have := congrArg Array.toList hcsq; simpa using this
   obtain ⟨aq5, kq5, rfl, oq51, oq52, oq53⟩ := hq5.open
   have qz0 : w.cell? ⟨b, off + i * 6, none⟩ = some (.int .i64 q0) := by simpa [Rd.n] using hcq 0 _ rfl
   have qz1 : w.cell? ⟨b, off + i * 6 + 1, none⟩ = some (.int .i64 q1) := hcq 1 _ rfl
   have qz2 : w.cell? ⟨b, off + i * 6 + 2, none⟩ = some (.int .i64 q2) := hcq 2 _ rfl
   have qz3 : w.cell? ⟨b, off + i * 6 + 3, none⟩ = some (.int .i64 q3) := hcq 3 _ rfl
   have qz4 : w.cell? ⟨b, off + i * 6 + 4, none⟩ = some (.string q4) := hcq 4 _ rfl
   have qz5 : w.cell? ⟨b, off + i * 6 + 5, none⟩ = some (.slice aq5 q5.length kq5) := hcq 5 _ rfl
   have qzb := blk qz0
   clear hcsq hcq hrq hyq
   have HSUB := Lib.hid (show ∀ c ∈ fq5, c ∈ ft from fun c hc => by
    have h1 := hsub c (by rw [hfpq]; simpa using hc)
    have h2 := FPt.out
    rw [h2]
    simpa using h1)
   clear hsub hfpq
   have hx : t0[i]? = some (q0, q1, q2, q3, q4, q5) := by rw [List.getElem?_eq_getElem hlt, HYq.out]
   have hr := HR.out
   rw [inN_new HY0.out (by omega) hx] at hr
   change R = (match inK (inN t0 f) i t0.length s0 d q5 with
    | none => none
    | some (s', d', ks) => some ((putC s' (q4, q3, ks)).1, d'.set i (putC s' (q4, q3, ks)).2, (putC s' (q4, q3, ks)).2)) at hr
   have HRR := Lib.hid hr
   have hql : q5.length ≤ 1048576 := HTK.out (q0, q1, q2, q3, q4, q5) (by rw [HYq.out]; exact List.getElem_mem hlt)
   have HQ := Lib.hid (And.intro hq3 hq4)
   have HQ5 := Lib.hid hq5
   have hdi : y0 < 0 := by omega
   clear hr hx hq0 hq1 hq2 hq3 hq4 hpos
   go_enter Try.func33, Try.ntmps33
   go_wp2_with fail
   generalize hW1 : ((w.alloc (.cells #[.slice as0 s0.length ks0] 32)).alloc (.cells #[.slice (some ⟨b, off, none⟩) t0.length kt0] 38)).alloc (.cells #[.slice none 0 0] 32) = W1
   have g1 : Gr w W1 := by rw [← hW1]; exact gd
   have cs1 : VRow W1 w.heap.size 32 [.slice as0 s0.length ks0] := by rw [← hW1]; exact (VRow.new (A := w) rfl).gr gd
   have ct1 : W1.cell? ⟨w.heap.size + 1, 0, none⟩ = some (.slice (some ⟨b, off, none⟩) t0.length kt0) := by rw [← hW1]; exact Gr.keep gd (box_cell (A := w.alloc (.cells #[.slice as0 s0.length ks0] 32)) (by simp) rfl)
   have vr1 : VRow W1 (w.heap.size + 1 + 1) 32 [.slice none 0 0] := by
    rw [← hW1]
    exact VRow.new (by simp)
   have s1 : W1.heap.size = w.heap.size + 3 := by rw [← hW1]; simp
   have HG1 := Lib.hid g1
   have HCS1 := Lib.hid cs1
   have HVR1 := Lib.hid vr1
   have HCT1 := Lib.hid ct1
   have kk0 := fun (w' : World) (h : Gr W1 w') => h.keep HCT1.out
   have kk1 := fun (w' : World) (h : Gr W1 w') => h.keep (HG1.out.keep qz3)
   have kk2 := fun (w' : World) (h : Gr W1 w') => h.keep (HG1.out.keep qz4)
   clear hW1 g1 cs1 vr1 ct1 c1 zc1
   refine wp_region_U (fun w' => Gr W1 w') 14 (by kernel_rfl) (Gr.drew (Gr.refl W1)) (fun hU => ?_)
   refine anyU_q 0 ?_
   try simp only [Act.put, uq1, uq2, uq3]
   refine anyU_q 2 ?_
   try simp only [Act.put, uq1, uq2, uq3]
   refine anyU_q 6 ?_
   try simp only [Act.put, uq1, uq2, uq3]
   refine anyU_q 8 ?_
   try simp only [Act.put, uq1, uq2, uq3]
   refine anyU_q 1 ?_
   try simp only [Act.put, uq1, uq2, uq3]
   refine anyU_q 7 ?_
   try simp only [Act.put, uq1, uq2, uq3]
   refine anyU_q 3 ?_
   try simp only [Act.put, uq1, uq2, uq3]
   refine anyU_q 9 ?_
   try simp only [Act.put, uq1, uq2, uq3]
   refine anyU_q 4 ?_
   try simp only [Act.put, uq1, uq2, uq3]
   refine anyU_q 10 ?_
   try simp only [Act.put, uq1, uq2, uq3]
   refine anyU_q 5 ?_
   try simp only [Act.put, uq1, uq2, uq3]
   refine anyU_q 11 ?_
   try simp only [Act.put, uq1, uq2, uq3]
   refine anyU_q 12 ?_
   try simp only [Act.put, uq1, uq2, uq3]
   refine anyU_ready (rs := [13]) (by kernel_rfl) (by simp) ?_
   refine (ReadyU.cons rfl (fun K hK => ?_) ReadyU.nil)
   go_simp
   refine hK.out _ _ gd (fun hU1 => ?_)
   clear hK K
   try simp only [Act.put, uq1, uq2, uq3]
   refine anyU_ready (rs := [14]) (by kernel_rfl) (by simp) ?_
   refine ReadyU.last rfl (fun K hK => ?_)
   go_simp
   refine hK.out _ _ ?_
   clear hK K
   try simp only [Act.put, uq1, uq2, uq3]
   refine anyU_done (by kernel_rfl) ?_ _
   skip
   have hbT : b < w0.heap.size := HFT.out b (by rw [FPt.out]; exact ht0.blk_in (by intro e; rw [e] at hlt; simp at hlt))
   go_wp2_with fail
   generalize hW2 : (W1.alloc (.cells #[.string q4, .int .i64 q3, .slice none 0 0] 78)).drew = W2
   have g12 : Gr W1 W2 := by rw [← hW2]; exact gd
   have s2 : W2.heap.size = w.heap.size + 4 := by rw [← hW2]; simp; omega
   have vx2 : VRow W2 (w.heap.size + 3) 78 [.string q4, .int .i64 q3, .slice none 0 0] := by
    rw [← hW2]
    exact (VRow.new (A := W1) (by omega)).gr gd
   have HG2 := Lib.hid (HG1.out.trans g12)
   have HCS2 := Lib.hid (HCS1.out.gr g12)
   have HVR2 := Lib.hid (HVR1.out.gr g12)
   have HCT2 := Lib.hid (g12.keep HCT1.out)
   have HVX2 := Lib.hid vx2
   have HQZ5 := Lib.hid qz5
   have HFLS := Lib.hid (show ∀ b ∈ fs0, b < w.heap.size from fun b hb => Rd.lt HS.out b (by rw [FPs.out]; exact hb))
   have HFS0 := Lib.hid (show cb ∉ fs0 from fun hm => HFS.out (by rw [FPs.out]; exact hm))
   clear hW2 hU hU1 g12 vx2 qz0 qz1 qz2 qz3 qz4 qz5 qzb kk0 kk1 kk2
   go_loopw [11] (fun s11 wr => ∃ (k : Nat) (a5 : Option Addr) (c5 : Nat) (fs5 : List Nat) (s5 : GStore) (d5 ks : List Int) (vc : Value) (fpc : List (List Nat)), k ≤ q5.length ∧ Hid (inK (inN t0 f) i t0.length s0 d (q5.take k) = some (s5, d5, ks)) ∧ Hid (Gr w0 wr) ∧ Hid (Wr [cb] w wr) ∧ W2.heap.size ≤ wr.heap.size ∧ Hid (VRow wr w.heap.size 32 [.slice a5 s5.length c5]) ∧ Hid (SlR fs5 wr (.slice a5 s5.length c5) s5) ∧ Hid (∀ b ∈ fs5, b ∈ fs0 ∨ W2.heap.size ≤ b) ∧ Hid (wr.cell? ⟨w.heap.size + 1, 0, none⟩ = some (.slice (some ⟨b, off, none⟩) t0.length kt0)) ∧ Hid (VRow wr (w.heap.size + 1 + 1) 32 [.slice none 0 0]) ∧ Hid (DRow rest wr cb d5) ∧ Hid (VRow wr (w.heap.size + 3) 78 [.string q4, .int .i64 q3, vc]) ∧ Hid (OwnR (α := Int) W2 3 wr vc fpc ks) ∧ Hid (fpc.flatten = []) ∧ Hid (∀ b ∈ vc.ownBlock.toList, b ∉ fs5) ∧ s11 = .int .i64 k) (fun s11 _ => q5.length - (intOf s11).toNat)
   case atStart => exact ⟨0, as0, ks0, fs0, s0, d, [], .slice none 0 0, [], by omega, Lib.hid rfl, Lib.hid (HG0.out.trans HG2.out), Lib.hid (HG2.out.toWr _), Nat.le_refl _, HCS2, Lib.hid (hs0.gr HG2.out), Lib.hid (fun b hb => .inl hb), HCT2, HVR2, Lib.hid (VRow.gr HVC.out HG2.out), HVX2, Lib.hid (OwnR.nil W2 W2 _), Lib.hid rfl, Lib.hid (fun b hb => by simp [Value.ownBlock] at hb), rfl⟩
   case round =>
    obtain ⟨k, a5, c5, fs5, s5, d5, ks, vc, fpc, hk, HK5, HG5, HW5, hs5, HSB5, HSL5, HF5, HCT5, HVR5, HVC5, HVX5, HOR5, HFC5, HDJ5, rfl⟩ := hrel
    rename World => W5
    have hok := inK_ok (t := t0) (T := inN t0 f) (i := i) t0.length (fun s d j s' d' k _ hj hd h => inN_ok t0 f s d j s' d' k hj hd h) (q5.take k) s0 d [] s5 d5 ks HDL.out HK5.out
    have hd5 : d5.length = t0.length := hok.1.len.trans HDL.out
    have hksl : ks.length = k := by rw [hok.2.1, List.length_take]; simp; omega
    have hwt5 : wtStore s5 + pot t0 d5 ≤ 2097152 := Nat.le_trans hok.1.wt HWT.out
    have hbd5 := hok.1.bd HBD.out
    have hks5 := hok.2.2 HBD.out (by simp)
    have hsl5 : s5.length ≤ 2097152 := by have := wtL_len wtCell s5; have h2 : wtStore s5 = wtL wtCell s5 := rfl; omega
    have HD5 := Lib.hid hd5
    have HWT5 := Lib.hid hwt5
    have HBD5 := Lib.hid hbd5
    have HKS5 := Lib.hid hks5
    have HKSL := Lib.hid hksl
    have HSLL5 := Lib.hid hsl5
    obtain ⟨ac, cc, hform⟩ := HOR5.out.form
    subst hform
    have HOB := Lib.hid (show ∀ b ∈ (Value.slice ac ks.length cc).ownBlock.toList, W2.heap.size ≤ b ∧ b < W5.heap.size from fun b hb => HOR5.out.base b (by simpa using hb))
    have HFLT5 := Lib.hid (show ∀ b ∈ fs5, b < W5.heap.size from HSL5.out.lt)
    have HCB5 := Lib.hid (show cb ∉ fs5 from fun hm => by
     rcases HF5.out _ hm with h | h
     ·exact HFS0.out h
     ·omega)
    have ct5 := HCT5.out
    have zct5 := blk ct5
    have qz5 := HW5.out.keepC HQZ5.out (by simp; omega)
    have zq5 := blk qz5
    have sb5 := HSB5.out.box
    have zsb5 := blk sb5
    have fsb5 := HSB5.out.frozen 0
    have rb5 := HVR5.out.box
    have zrb5 := blk rb5
    have frb5 := HVR5.out.frozen 0
    have k0' : (0 : Int) ≤ (k : Int) := by omega
    have iw1 : IntKind.i64.wrap ((i : Int) + 1) = (i : Int) + 1 := IntWalk.i64_in _ (by omega)
    have iw2 : IntKind.i64.wrap ((t0.length : Int) - 1) = (t0.length : Int) - 1 := IntWalk.i64_in _ (by omega)
    clear hok hd5 hwt5 hbd5 hks5 hksl hsl5
    by_cases hlk : k < q5.length
    ·have k1' : (k : Int) < (q5.length : Int) := by omega
     have iwk : IntKind.i64.wrap ((k : Int) + 1) = (k : Int) + 1 := IntWalk.i64_in _ (by omega)
     obtain ⟨bL, oL, rfl, hbL⟩ := oq53 k hlk
     have hcL := HW5.out.keepC (HQ5.out.int_at hlk).1 (fun hmm => by
      have h1 := HFT.out bL (HSUB.out _ (HQ5.out.blk_in (by intro e; rw [e] at hlk; simp at hlk)))
      simp at hmm
      omega)
     have zcL := blk hcL
     by_cases hin : (i : Int) + 1 ≤ q5[k] ∧ q5[k] ≤ (t0.length : Int) - 1
     ·obtain ⟨m, hm⟩ : ∃ m : Nat, q5[k] = m := ⟨q5[k].toNat, by omega⟩
      have HM := Lib.hid hm
      rw [hm] at hin hcL
      have hml : m < t0.length := by omega
      have HIN := Lib.hid hin
      clear hm hin
      go_wp2_with fail
      refine (l1In_yes _ _ _ _ HIN.out.1 HIN.out.2).mono ?_
      rintro e w' ⟨rfl, x4, rfl⟩
      go_wp2_with fail
      refine (HIH.out m ft _ fs5 _ cp s5 d5 _ (Rd.gr (Rd.wr HT.out HW5.out (fun x hx hmm => by have h1 := HFT.out x hx; simp at hmm; omega)) gd) (rdStore_mk s5 (HSL5.out.gr gd)) HFT.out HCB5.out hml (by have := HFU.out; have := HIN.out.1; omega) (HG5.out.trans gd) (VRow.gr HVC5.out gd) HD5.out HWT5.out HBD5.out).mono ?_
      rintro e W6 ⟨a6, n6, c6, y6, d6, rfl, g6, wr6, vc6, hno, hyes⟩
      have hs6 := wr6.size
      have g56 : Gr W5 (W5.ext x4) := gd
      have wr56 : Wr [cb] W5 W6 := (g56.toWr _).trans wr6
      have HW56 := Lib.hid wr56
      have HG6 := Lib.hid g6
      have HW6 := Lib.hid (HW5.out.trans wr56)
      have HVC6 := Lib.hid vc6
      have HSB6 := Lib.hid (HSB5.out.wr wr56 (by simp; omega))
      have HVR6 := Lib.hid (HVR5.out.wr wr56 (by simp; omega))
      have HVX6 := Lib.hid (HVX5.out.wr wr56 (by simp; omega))
      have HCT6 := Lib.hid (wr56.keepC HCT5.out (by simp; omega))
      have HSL6 := Lib.hid (HSL5.out.wr wr56 (fun b hb hm => by simp at hm; subst hm; exact HCB5.out hb))
      have hs56 : W5.heap.size ≤ W6.heap.size := wr56.size
      have sb6 := HSB6.out.box
      have zsb6 := blk sb6
      have fsb6 := HSB6.out.frozen 0
      have rb6 := HVR6.out.box
      have zrb6 := blk rb6
      have frb6 := HVR6.out.frozen 0
      have d2 := HVX6.out.cell (k := 2) (by simp)
      have zd2 := blk d2
      have fd2 := HVX6.out.frozen 2
      clear hs6 g56 wr56 wr6 vc6 g6 sb5 zsb5 fsb5 rb5 zrb5 frb5 ct5 zct5 qz5 zq5 hcL zcL
      obtain ⟨T, hT⟩ : ∃ T, T = inN t0 f s5 d5 m := ⟨_, rfl⟩
      rw [← hT] at hno hyes
      cases T with
      | none =>
       obtain rfl := hno rfl
       have HRN : Hid (R = none) := Lib.hid (by
        have h1 : inK (inN t0 f) i t0.length s0 d (q5.take (k + 1)) = none := by
         rw [List.take_succ_eq_append_getElem hlk, inK_snoc, HK5.out]
         simp only [inStep]
         rw [if_pos (by rw [HM.out]; exact HIN.out), HM.out, Int.toNat_natCast, ← hT]
        rw [HRR.out, inK_take h1])
       clear hno hyes hT
       go_wp2_with fail
       generalize hWF : (W6.setCell ⟨w.heap.size + 1 + 1, 0, none⟩ (.slice a5 s5.length c5)).alloc (.cells #[.slice a6 n6 c6] 32) = WF
       have vF : VRow WF (w.heap.size + 1 + 1) 32 [.slice a5 s5.length c5] := by rw [← hWF]; exact (HVR6.out.set 0 _).gr (Gr.alloc (Gr.refl _) _)
       have wF : Wr [cb] w WF := by rw [← hWF]; exact (HW6.out.more2 ((Wr.refl [w.heap.size + 1 + 1] _).setCell (List.mem_singleton.2 rfl) _) (fun x hx => .inr (by rw [List.mem_singleton.1 hx]; omega))).gr (Gr.alloc (Gr.refl _) _)
       have gF : Gr w0 WF := by rw [← hWF]; exact (Gr.setCell (p := ⟨w.heap.size + 1 + 1, 0, none⟩) HG6.out (by show _ ≤ w.heap.size + 1 + 1; omega) _).trans (Gr.alloc (Gr.refl _) _)
       have cF : DRow rest WF cb d6 := by rw [← hWF]; exact (VRow.ne HVC6.out (by omega)).gr (Gr.alloc (Gr.refl _) _)
       have r0' := vF.box
       clear hWF vF
       exact bodyPost_ret (v := .tuple #[.agg #[.slice a5 s5.length c5], .int .i64 (-1)]) (by simp [results, Try.results33, go_sem, r0']) rfl ⟨a5, s5.length, c5, -1, d6, rfl, gF, wF, cF, fun _ => rfl, fun s'' d'' y'' h => by rw [HRN.out] at h; cases h⟩
      | some r =>
       obtain ⟨s6, d6', y6'⟩ := r
       obtain ⟨rfl, rfl, fs6, hsl6, hfs6⟩ := hyes s6 d6' y6' rfl
       have hn6 : n6 = s6.length := by obtain ⟨a, c, e, -⟩ := hsl6; injection e
       subst hn6
       have hT' := hT.symm
       have hK6 : inK (inN t0 f) i t0.length s0 d (q5.take (k + 1)) = some (s6, d6, ks ++ [y6]) := by
        rw [List.take_succ_eq_append_getElem hlk, inK_snoc, HK5.out]
        simp only [inStep]
        rw [if_pos (by rw [HM.out]; exact HIN.out), HM.out, Int.toNat_natCast, hT']
       have hok6 := inN_ok t0 f s5 d5 m s6 d6 y6 hml HD5.out hT'
       have hy6 : 0 ≤ y6 ∧ y6 < (s6.length : Int) := ⟨hok6.2.1, hok6.2.2 HBD5.out⟩
       have hs6l : s6.length ≤ 2097152 := by have := wtL_len wtCell s6; have h2 : wtStore s6 = wtL wtCell s6 := rfl; have := hok6.1.wt; have := HWT5.out; omega
       have HK6 := Lib.hid hK6
       have HY6 := Lib.hid hy6
       have hy0 : ¬ y6 < 0 := by omega
       have HS6 := Lib.hid (And.intro hsl6 (show ∀ b ∈ fs6, b ∈ fs5 ∨ W5.heap.size ≤ b from fun b hb => (hfs6 b hb).imp id (fun h => by simp at h; omega)))
       obtain ⟨W7, hW7⟩ : ∃ W7, W7 = (W6.setCell ⟨w.heap.size, 0, none⟩ (.slice a6 s6.length c6)).alloc (.cells #[.slice a6 s6.length c6] 32) := ⟨_, rfl⟩
       have g7 : Gr w0 W7 := by rw [hW7]; exact (Gr.setCell (p := ⟨w.heap.size, 0, none⟩) HG6.out (by show _ ≤ w.heap.size; omega) _).trans (Gr.alloc (Gr.refl _) _)
       have w67 : Wr [w.heap.size] W6 W7 := by rw [hW7]; exact ((Wr.refl [w.heap.size] _).setCell (List.mem_singleton.2 rfl) _).gr (Gr.alloc (Gr.refl _) _)
       have o6 : OwnR (α := Int) W2 3 W6 (.slice ac ks.length cc) fpc ks := HOR5.out.wr HW56.out (fun b hb => by rw [HFC5.out] at hb; simp at hb) (fun b hb hm => by have := HOB.out b (by rw [hb]; simp); simp at hm; omega)
       have o7 : OwnR (α := Int) W2 3 W7 (.slice ac ks.length cc) fpc ks := o6.wr w67 (fun b hb => by rw [HFC5.out] at hb; simp at hb) (fun b hb hm => by have := HOB.out b (by rw [hb]; simp); simp at hm; omega)
       have s67 : W7.heap.size = W6.heap.size + 1 := by rw [hW7]; simp
       have A0 := Lib.hid (show Gr w0 (((W6.setCell ⟨w.heap.size, 0, none⟩ (.slice a6 s6.length c6)).alloc (.cells #[.slice a6 s6.length c6] 32)).alloc (.cells #[.int .i64 y6] 3)) by rw [← hW7]; exact g7.trans (Gr.alloc (Gr.refl _) _))
       have AO := Lib.hid (show OwnR (α := Int) W2 3 ((W6.setCell ⟨w.heap.size, 0, none⟩ (.slice a6 s6.length c6)).alloc (.cells #[.slice a6 s6.length c6] 32)) (.slice ac ks.length cc) fpc ks by rw [← hW7]; exact o7)
       have H67 := Lib.hid w67
       have HW7 := Lib.hid hW7
       have HS67 := Lib.hid s67
       clear hno hyes hT hT' hK6 hok6 hy6 hsl6 hfs6 g7 w67 o6 o7 hW7 s67
       go_wp2_with (first | (at_builtin; refine wpList_append_RB (α := Int) (wg := w0) (w0 := W2) (A0.out) (HG0.out.trans HG2.out).size (by simp; omega) rfl _ _ 59 rfl 3 i0 (.int .i64 0) 8 Try.underlying59 HZ.out.1 HZ.out.2.1 HZ.out.2.2.1 HZ.out.2.2.2 rfl (.slice ac ks.length cc) fpc ks (by rfl) (AO.out.gr gd) _ [[]] [y6] (by rfl) (SrcR.one (by simp) (intRd (wf_small HY6.out.1 (by have := HY6.out.2; omega)) _)) (fun c _ => by simp) (by rw [HKSL.out]; unfold maxLen; simp; omega) (by rw [HKSL.out]; simp; omega) ?_; intro v9 w9 k1 k2 k3 k4; have hw9 : Wr (Value.slice ac ks.length cc).ownBlock.toList W7 w9 := (by rw [HW7.out]; exact ((Gr.alloc (Gr.refl _) _).toWr _).trans k2); obtain ⟨a9, c9, hv9⟩ := k1.form; rw [show (ks ++ [y6]).length = ks.length + 1 by simp] at hv9; subst hv9; have cc9 := (HVX6.out.wr H67.out (by simp)).wr hw9 (fun hm => by have := HOB.out _ hm; omega); have e2 := cc9.cell (k := 2) (by simp); have fe2 := cc9.frozen 2; have ze2 := blk e2; have K39 := Lib.hid (show ∀ b ∈ (Value.slice a9 (ks.length + 1) c9).ownBlock.toList, b ∈ (Value.slice ac ks.length cc).ownBlock.toList ∨ W6.heap.size ≤ b from fun b hb => k3.elim (fun e => .inl (by rw [e] at hb; exact hb)) (fun e => .inr (by rw [e] at hb; simp at hb; omega))); have HW9 := Lib.hid hw9; have HOR9 := Lib.hid k1; have HCC9 := Lib.hid cc9; have HG9 := Lib.hid k4; have hs9 := hw9.size; clear k1 k2 k3 k4 hw9 cc9))
       have hs7 := HS67.out
       have hF6 : ∀ b ∈ fs6, b ∈ fs0 ∨ W2.heap.size ≤ b := fun b hb => by
        rcases HS6.out.2 b hb with h | h
        ·exact HF5.out b h
        ·exact .inr (by omega)
       have hb6 : ∀ b ∈ fs6, b ≠ w.heap.size ∧ b ≠ w.heap.size + 3 ∧ b < W6.heap.size ∧ b ∉ (Value.slice ac ks.length cc).ownBlock.toList := fun b hb => by
        refine ⟨?_, ?_, HS6.out.1.lt b hb, fun hm => ?_⟩
        ·rcases hF6 b hb with h | h
         ·have := HFLS.out b h; omega
         ·omega
        ·rcases hF6 b hb with h | h
         ·have := HFLS.out b h; omega
         ·omega
        ·rcases HS6.out.2 b hb with h | h
         ·exact HDJ5.out b hm h
         ·have := HOB.out b hm; omega
       have hbo : ∀ b ∈ (Value.slice ac ks.length cc).ownBlock.toList, b ≠ cb ∧ w.heap.size + 4 ≤ b := fun b hb => by
        have := HOB.out b hb
        refine ⟨by omega, by omega⟩
       refine ⟨⟨k + 1, a6, c6, fs6, s6, d6, ks ++ [y6], .slice a9 (ks.length + 1) c9, fpc ++ [[]], by omega, HK6, Lib.hid (Gr.setCell (p := ⟨w.heap.size + 3, 2, none⟩) HG9.out (by show _ ≤ w.heap.size + 3; omega) _), Lib.hid ?_, by rw [size_setCell']; omega, Lib.hid ?_, Lib.hid ?_, Lib.hid hF6, Lib.hid ?_, Lib.hid ?_, Lib.hid ?_, Lib.hid (HCC9.out.set 2 _), Lib.hid ?_, Lib.hid (by rw [List.flatten_append, HFC5.out]; rfl), Lib.hid ?_, by go_num⟩, by simp [intOf]; omega⟩
       ·exact ((HW6.out.more2 H67.out (fun x hx => .inr (by rw [List.mem_singleton.1 hx]; omega))).more2 HW9.out (fun x hx => .inr (by have := hbo x hx; omega))).more2 ((Wr.refl [w.heap.size + 3] _).setCell (List.mem_singleton.2 rfl) _) (fun x hx => .inr (by rw [List.mem_singleton.1 hx]; omega))
       ·have h1 : VRow W7 w.heap.size 32 [.slice a6 s6.length c6] := by
         rw [HW7.out]
         exact (HSB6.out.set 0 _).gr (Gr.alloc (Gr.refl _) _)
        exact (h1.wr HW9.out (fun hm => by have := hbo _ hm; omega)).ne (by omega)
       ·exact ((HS6.out.1.wr H67.out (fun b hb hm => (hb6 b hb).1 (List.mem_singleton.1 hm))).wr HW9.out (fun b hb hm => (hb6 b hb).2.2.2 hm)).wr ((Wr.refl [w.heap.size + 3] _).setCell (List.mem_singleton.2 rfl) _) (fun b hb hm => (hb6 b hb).2.1 (List.mem_singleton.1 hm))
       ·exact ((Wr.refl [w.heap.size + 3] _).setCell (List.mem_singleton.2 rfl) _).keepC (HW9.out.keepC (H67.out.keepC HCT6.out (by simp)) (fun hm => by have := hbo _ hm; omega)) (by simp)
       ·exact ((HVR6.out.wr H67.out (by simp <;> omega)).wr HW9.out (fun hm => by have := hbo _ hm; omega)).ne (by omega)
       ·exact VRow.ne (VRow.wr (VRow.wr HVC6.out H67.out (by simp <;> omega)) HW9.out (fun hm => (hbo _ hm).1 rfl)) (by omega)
       ·exact HOR9.out.wr ((Wr.refl [w.heap.size + 3] _).setCell (List.mem_singleton.2 rfl) _) (fun b hb => by rw [List.flatten_append, HFC5.out] at hb; simp at hb) (fun b hb hm => by
         have h1 := HOR9.out.base b hb
         have := List.mem_singleton.1 hm
         omega)
       ·intro b hb hm
        rcases K39.out b hb with h | h
        ·exact (hb6 b hm).2.2.2 h
        ·have := (hb6 b hm).2.2.1
         omega
     ·have hor : q5[k] < (i : Int) + 1 ∨ (t0.length : Int) - 1 < q5[k] := by omega
      have HIN := Lib.hid hor
      have HRN : Hid (R = none) := Lib.hid (by
       have h1 : inK (inN t0 f) i t0.length s0 d (q5.take (k + 1)) = none := by
        rw [List.take_succ_eq_append_getElem hlk, inK_snoc, HK5.out]
        simp only [inStep]
        rw [if_neg hin]
       rw [HRR.out, inK_take h1])
      clear hin hor
      go_wp2_with fail
      refine (l1In_no _ _ _ _ HIN.out).mono ?_
      rintro e w' ⟨rfl, x4, rfl⟩
      go_wp2_with fail
      generalize hWF : (W5.setCell ⟨w.heap.size + 1 + 1, 0, none⟩ (.slice a5 s5.length c5)).ext x4 = WF
      have vF : VRow WF (w.heap.size + 1 + 1) 32 [.slice a5 s5.length c5] := by rw [← hWF]; exact (HVR5.out.set 0 _).gr (Gr.ext (Gr.refl _) _)
      have wF : Wr [cb] w WF := by rw [← hWF]; exact (HW5.out.more2 ((Wr.refl [w.heap.size + 1 + 1] _).setCell (List.mem_singleton.2 rfl) _) (fun x hx => .inr (by rw [List.mem_singleton.1 hx]; omega))).gr (Gr.ext (Gr.refl _) _)
      have gF : Gr w0 WF := by rw [← hWF]; exact (Gr.setCell (p := ⟨w.heap.size + 1 + 1, 0, none⟩) HG5.out (by show _ ≤ w.heap.size + 1 + 1; omega) _).trans (Gr.ext (Gr.refl _) _)
      have cF : DRow rest WF cb d5 := by rw [← hWF]; exact (VRow.ne HVC5.out (by omega)).gr (Gr.ext (Gr.refl _) _)
      have r0' := vF.box
      clear hWF vF
      exact bodyPost_ret (v := .tuple #[.agg #[.slice a5 s5.length c5], .int .i64 (-1)]) (by simp [results, Try.results33, go_sem, r0']) rfl ⟨a5, s5.length, c5, -1, d5, rfl, gF, wF, cF, fun _ => rfl, fun s'' d'' y'' h => by rw [HRN.out] at h; cases h⟩
    ·have hk2 : k = q5.length := by omega
     subst hk2
     have hRS := HRR.out
     rw [show inK (inN t0 f) i t0.length s0 d q5 = some (s5, d5, ks) by have := HK5.out; rw [List.take_length] at this; exact this] at hRS
     simp only at hRS
     obtain ⟨fqk, hkr, hkf⟩ := HOR5.out.slR (by have := HKSL.out; unfold reachLen; omega)
     have HKB := Lib.hid (show ∀ b ∈ fqk, b ∈ (Value.slice ac ks.length cc).ownBlock.toList from fun b hb => by
      rcases hkf with ⟨-, h⟩ | ⟨c, h1, h2⟩
      ·rw [h] at hb; simp at hb
      ·rw [h2, HFC5.out] at hb
       simp at hb
       subst hb
       rw [h1]; simp)
     have HKN := Lib.hid (show fqk.Nodup by
      rcases hkf with ⟨-, h⟩ | ⟨c, h1, h2⟩
      ·rw [h]; simp
      ·rw [h2, HFC5.out]; simp)
     clear hkf
     obtain ⟨j, hj⟩ : ∃ j, j = idxOf (fun z => decide (z = ((q4, q3, ks) : GCell))) s5 := ⟨_, rfl⟩
     have hjl := idxOf_ltC (fun z => decide (z = ((q4, q3, ks) : GCell))) s5
     rw [← hj] at hjl
     have HC := Lib.hid (l39Find_any _ _ #[.slice a5 s5.length c5] #[.string q4, .int .i64 q3, .slice ac ks.length cc] s5 (q4, q3, ks) _ (rdStore_mk s5 HSL5.out) (rdCell_mk q4 q3 ks HQ.out.2 HQ.out.1 hkr))
     rw [← hj] at HC
     have hput : (putC s5 (q4, q3, ks)) = if j < 0 then (s5 ++ [(q4, q3, ks)], (s5.length : Int)) else (s5, j) := by rw [hj]; rfl
     rw [hput] at hRS
     have HRS0 := Lib.hid hRS
     clear hRS
     have HKR := Lib.hid hkr
     have c0' := HVX5.out.cell (k := 0) (by simp)
     have c1' := HVX5.out.cell (k := 1) (by simp)
     have c2' := HVX5.out.cell (k := 2) (by simp)
     have zc0' := blk c0'
     have hsl5 := HSLL5.out
     clear hj hkr hput
     go_wp2_with fail
     refine HC.out.mono ?_
     rintro e w' ⟨rfl, x7, rfl⟩
     generalize hW7 : W5.ext x7 = W7
     have g7 : Gr W5 W7 := by rw [← hW7]; exact gd
     have HG7 := Lib.hid (HG5.out.trans g7)
     have HW7 := Lib.hid (HW5.out.gr g7)
     have HSB7 := Lib.hid (HSB5.out.gr g7)
     have HVR7 := Lib.hid (HVR5.out.gr g7)
     have HVC7 := Lib.hid (VRow.gr HVC5.out g7)
     have HVX7 := Lib.hid (HVX5.out.gr g7)
     have HSL7 := Lib.hid (HSL5.out.gr g7)
     have HKR7 := Lib.hid (HKR.out.gr g7)
     have s7 := g7.size
     have HKL := Lib.hid (show ∀ b ∈ fqk, b < W5.heap.size ∧ W2.heap.size ≤ b from fun b hb => by have := HOB.out b (HKB.out b hb); omega)
     clear hW7 g7 HC c0' c1' c2' zc0' sb5 zsb5 fsb5 rb5 zrb5 frb5 ct5 zct5 qz5 zq5
     by_cases hneg : j < 0
     ·have hRS := HRS0.out
      rw [if_pos hneg] at hRS
      have HRS := Lib.hid hRS
      clear hRS
      obtain ⟨gps, hsrc, hgsub, -⟩ := SrcR.of_slR HSL7.out
      have HSRC := Lib.hid hsrc
      have HGSUB := Lib.hid (show ∀ c ∈ gps.flatten, c < W5.heap.size from fun c hc => HFLT5.out c (hgsub c hc))
      have HGSUB2 := Lib.hid hgsub
      have kk0 := fun (w' : World) (h : Gr W7 w') => h.keep HSB7.out.box
      have kk1 := fun (w' : World) (h : Gr W7 w') => h.keep (HVX7.out.cell (k := 0) (by simp))
      have kk2 := fun (w' : World) (h : Gr W7 w') => h.keep (HVX7.out.cell (k := 1) (by simp))
      have kk3 := fun (w' : World) (h : Gr W7 w') => h.keep (HVX7.out.cell (k := 2) (by simp))
      clear hsrc hgsub
      go_wp2_with fail
      refine wp_region_U (fun w' => Gr W7 w') 8 (by kernel_rfl) (Gr.drew (Gr.refl W7)) (fun hU => ?_)
      refine anyU_q 1 ?_
      try simp only [Act.put, uq1, uq2, uq3]
      refine anyU_q 4 ?_
      try simp only [Act.put, uq1, uq2, uq3]
      refine anyU_q 2 ?_
      try simp only [Act.put, uq1, uq2, uq3]
      refine anyU_ready (rs := [0, 5]) (by kernel_rfl) (by simp) ?_
      refine (ReadyU.cons rfl (fun K hK => ?_) (ReadyU.cons rfl (fun K hK => ?_) ReadyU.nil))
      ·skip
       go_simp
       refine hK.out _ _ gd (fun hU1 => ?_)
       clear hK K
       try simp only [Act.put, uq1, uq2, uq3]
       refine anyU_ready (rs := [3, 5]) (by kernel_rfl) (by simp) ?_
       refine (ReadyU.cons rfl (fun K hK => ?_) (ReadyU.cons rfl (fun K hK => ?_) ReadyU.nil))
       ·skip
        refine step_append_RB (α := GCell) (wg := W7) (w0 := W7) (w := W7.drew.alloc (.cells #[] 78)) (by exact gd) (Nat.le_refl _) (by exact (Gr.size (by exact gd))) (by rfl) _ _ _ (by rfl) 78 iC (.agg #[.string ByteArray.empty, .int .i64 0, .slice none 0 0]) 48 Try.underlying30 HZC.out.1 HZC.out.2.1 HZC.out.2.2.1 HZC.out.2.2.2 rfl (.slice (some ⟨W7.heap.size, 0, none⟩) 0 0) [] _ (by rfl) ((OwnR.lit0 (w0 := W7) (w := W7.drew) 78 (Nat.le_refl _) rfl).gr gd) _ gps s5 (by rfl) (HSRC.out.gr gd) (fun b hb hm => by have h1 := ownB hb; have h2 := HGSUB.out b hm; omega) (by unfold maxLen; simp; omega) (by simp; omega) ?_
        intro v9 w9 k1 k2 k3 k4
        rw [List.nil_append, List.nil_append] at k1
        have K1 := Lib.hid k1
        have K4 := Lib.hid k4
        have hs9 := k4.size
        clear k1 k2 k3
        refine hK.out _ _ k4 (fun hU3 => ?_)
        clear hK K k4
        try simp only [Act.put, uq1, uq2, uq3]
        refine anyU_ready (rs := [5]) (by kernel_rfl) (by simp) ?_
        refine (ReadyU.cons rfl (fun K hK => ?_) ReadyU.nil)
        go_simp
        refine hK.out _ _ (K4.out.trans (Gr.alloc (Gr.refl _) _)) (fun hU2 => ?_)
        clear hK K
        try simp only [Act.put, uq1, uq2, uq3]
        refine anyU_ready (rs := [6]) (by kernel_rfl) (by simp) ?_
        refine (ReadyU.cons rfl (fun K hK => ?_) ReadyU.nil)
        refine step_append_RB (α := GCell) (wg := W7) (w0 := W7) (w := w9.alloc (.cells #[.string q4, .int .i64 q3, .slice ac ks.length cc] 78)) (by first | exact K4.out | exact K4.out.trans gd) (Nat.le_refl _) (by first | omega | (simp; omega)) (by rfl) _ _ _ (by rfl) 78 iC (.agg #[.string ByteArray.empty, .int .i64 0, .slice none 0 0]) 48 Try.underlying30 HZC.out.1 HZC.out.2.1 HZC.out.2.2.1 HZC.out.2.2.2 rfl v9 gps s5 (by rfl) (by first | exact K1.out | exact K1.out.gr gd) _ [fqk] [(q4, q3, ks)] (by rfl) (SrcR.one (w := w9) (e := 78) rfl (rdCell_mk q4 q3 ks HQ.out.2 HQ.out.1 (HKR7.out.gr (K4.out.trans gd)))) (fun b hb hm => by have h1 := (K1.out.base b hb).1; have h2 := HKL.out b (by simpa using hm); omega) (by unfold maxLen; simp; omega) (by simp; omega) ?_
        intro v10 w10 k1 k2 k3 k4
        have L1 := Lib.hid k1
        have L4 := Lib.hid k4
        have hs10 := k4.size
        obtain ⟨a10, c10, hv10⟩ := k1.form
        rw [show (s5 ++ [((q4, q3, ks) : GCell)]).length = s5.length + 1 by simp] at hv10
        subst hv10
        have sb10 := (HSB7.out.gr k4).box
        have fsb10 := (HSB7.out.gr k4).frozen 0
        have zsb10 := blk sb10
        clear k1 k2 k3
        refine hK.out _ _ k4 (fun hU4 => ?_)
        clear hK K k4
        try simp only [Act.put, uq1, uq2, uq3]
        refine anyU_q 7 ?_
        try simp only [Act.put, uq1, uq2, uq3]
        refine anyU_ready (rs := [8]) (by kernel_rfl) (by simp) ?_
        refine ReadyU.last rfl (fun K hK => ?_)
        go_simp
        refine hK.out _ _ ?_
        clear hK K
        try simp only [Act.put, uq1, uq2, uq3]
        refine anyU_done (by kernel_rfl) ?_ _
        have hFX : ∀ b ∈ (Value.slice a10 (s5.length + 1) c10).ownBlock.toList ++ (gps.flatten ++ fqk), b ∉ [w.heap.size] ∧ b ≠ cb ∧ b ≠ w.heap.size + 1 + 1 ∧ (b ∈ fs0 ∨ W2.heap.size ≤ b) := fun b hb => by
         have hb2 : (b ∈ fs0 ∨ W2.heap.size ≤ b) ∧ b ≠ cb := by
          rcases List.mem_append.1 hb with h | h
          ·have := (L1.out.base b (by simpa using h)).1
           exact ⟨.inr (by omega), by omega⟩
          ·rcases List.mem_append.1 h with h | h
           ·have h1 := HGSUB2.out b h
            exact ⟨HF5.out b h1, fun e => HCB5.out (by rw [← e]; exact h1)⟩
           ·have h1 := HKL.out b h
            exact ⟨.inr h1.2, by omega⟩
         have h3 : b < w.heap.size ∨ W2.heap.size ≤ b := hb2.1.imp (HFLS.out b) id
         exact ⟨fun hm => by have := List.mem_singleton.1 hm; omega, hb2.2, by omega, hb2.1⟩
        generalize hW8 : w10.setCell ⟨w.heap.size, 0, none⟩ (.slice a10 (s5.length + 1) c10) = W8
        have wW8 : Wr [w.heap.size] w10 W8 := by rw [← hW8]; exact (Wr.refl [w.heap.size] _).setCell (List.mem_singleton.2 rfl) _
        have HSB8 := Lib.hid (show VRow W8 w.heap.size 32 [.slice a10 (s5.length + 1) c10] by rw [← hW8]; exact (HSB7.out.gr L4.out).set 0 _)
        have HVR8 := Lib.hid ((HVR7.out.gr L4.out).wr wW8 (by simp; omega))
        have HVC8 := Lib.hid (VRow.wr (VRow.gr HVC7.out L4.out) wW8 (by simp; omega))
        have HG8 := Lib.hid (show Gr w0 W8 by rw [← hW8]; exact Gr.setCell (p := ⟨w.heap.size, 0, none⟩) (HG7.out.trans L4.out) (by show _ ≤ w.heap.size; omega) _)
        have HW8 := Lib.hid ((HW7.out.gr L4.out).more2 wW8 (fun x hx => .inr (by rw [List.mem_singleton.1 hx]; omega)))
        obtain ⟨fs8, hs8, hf8⟩ := L1.out.slR (by simp; unfold reachLen; omega)
        have hf8' : ∀ b ∈ fs8, b ∈ (Value.slice a10 (s5.length + 1) c10).ownBlock.toList ++ (gps.flatten ++ fqk) := fun b hb => by
         rcases hf8 with ⟨-, h⟩ | ⟨c, h1, h2⟩
         ·rw [h] at hb; simp at hb
         ·rw [h2] at hb
          rcases List.mem_cons.1 hb with h | h
          ·subst h; exact List.mem_append_left _ (by rw [h1]; simp)
          ·rw [List.flatten_append] at h
           exact List.mem_append_right _ (by simpa using h)
        have HSL8 := Lib.hid (hs8.wr wW8 (fun b hb => (hFX b (hf8' b hb)).1))
        have HF8 := Lib.hid (show cb ∉ fs8 ∧ ∀ b ∈ fs8, b ∈ fs0 ∨ W2.heap.size ≤ b from ⟨fun hm => (hFX cb (hf8' cb hm)).2.1 rfl, fun b hb => (hFX b (hf8' b hb)).2.2.2⟩)
        have iwn : IntKind.i64.wrap ((s5.length : Int) + 1 - 1) = (s5.length : Int) := by rw [IntWalk.i64_in _ (by omega)]; omega
        clear hW8 wW8 hs8 hf8 hf8' hFX hU hU1 hU2 hU3 hU4 kk0 kk1 kk2 kk3
        have hdi5 : i < d5.length := by have := HD5.out; omega
        have y8 := DRow.cell HVC8.out hdi5
        have zy8 := blk y8
        have fy8 := VRow.frozen HVC8.out i
        have sb8 := HSB8.out.box
        have zsb8 := blk sb8
        have rb8 := HVR8.out.box
        have zrb8 := blk rb8
        have frb8 := HVR8.out.frozen 0
        go_wp2_with fail
        generalize hWF : (W8.setCell ⟨cb, i, none⟩ (.int .i64 (s5.length : Int))).setCell ⟨w.heap.size + 1 + 1, 0, none⟩ (.slice a10 (s5.length + 1) c10) = WF
        have vF : VRow WF (w.heap.size + 1 + 1) 32 [.slice a10 (s5.length + 1) c10] := by rw [← hWF]; exact (HVR8.out.ne (by omega)).set 0 _
        have gF : Gr w0 WF := by rw [← hWF]; exact Gr.setCell (p := ⟨w.heap.size + 1 + 1, 0, none⟩) (Gr.setCell (p := ⟨cb, i, none⟩) HG8.out hcb _) (by show _ ≤ w.heap.size + 1 + 1; omega) _
        have wF : Wr [cb] w WF := by rw [← hWF]; exact (HW8.out.setCell (List.mem_singleton.2 rfl) _).more2 ((Wr.refl [w.heap.size + 1 + 1] _).setCell (List.mem_singleton.2 rfl) _) (fun x hx => .inr (by rw [List.mem_singleton.1 hx]; omega))
        have cF : DRow rest WF cb (d5.set i (s5.length : Int)) := by rw [← hWF]; exact VRow.ne (DRow.set HVC8.out hdi5 (s5.length : Int)) (by omega)
        have sF : SlR fs8 WF (.slice a10 (s5.length + 1) c10) (s5 ++ [((q4, q3, ks) : GCell)]) := by
         rw [← hWF]
         exact (HSL8.out.wr ((Wr.refl [cb] _).setCell (List.mem_singleton.2 rfl) _) (fun b hb hm => by rw [List.mem_singleton.1 hm] at hb; exact HF8.out.1 hb)).wr ((Wr.refl [w.heap.size + 1 + 1] _).setCell (List.mem_singleton.2 rfl) _) (fun b hb hm => by
          rw [List.mem_singleton.1 hm] at hb
          rcases HF8.out.2 _ hb with h | h
          ·have := HFLS.out _ h; omega
          ·omega)
        have r0' := vF.box
        clear hWF vF
        refine bodyPost_ret (v := .tuple #[.agg #[.slice a10 (s5.length + 1) c10], .int .i64 (s5.length : Int)]) (by simp [results, Try.results33, go_sem, r0']) rfl ⟨a10, (s5.length + 1), c10, (s5.length : Int), d5.set i (s5.length : Int), rfl, gF, wF, cF, (fun h => by rw [HRS.out] at h; cases h), (fun s'' d'' y'' h => ?_)⟩
        rw [HRS.out] at h
        simp only [Option.some.injEq, Prod.mk.injEq] at h
        obtain ⟨e1, e2, e3⟩ := h
        refine ⟨e3, e2, fs8, by rw [← e1]; exact sF, fun b hb => ?_⟩
        rcases HF8.out.2 b hb with h | h
        ·exact .inl (by rw [FPs.out]; exact h)
        ·exact .inr (by omega)
       ·skip
        go_simp
        refine hK.out _ _ gd (fun hU2 => ?_)
        clear hK K
        try simp only [Act.put, uq1, uq2, uq3]
        refine anyU_ready (rs := [3]) (by kernel_rfl) (by simp) ?_
        refine (ReadyU.cons rfl (fun K hK => ?_) ReadyU.nil)
        refine step_append_RB (α := GCell) (wg := W7) (w0 := W7) (w := (W7.drew.alloc (.cells #[] 78)).alloc (.cells #[.string q4, .int .i64 q3, .slice ac ks.length cc] 78)) (by exact gd) (Nat.le_refl _) (by exact (Gr.size (by exact gd))) (by rfl) _ _ _ (by rfl) 78 iC (.agg #[.string ByteArray.empty, .int .i64 0, .slice none 0 0]) 48 Try.underlying30 HZC.out.1 HZC.out.2.1 HZC.out.2.2.1 HZC.out.2.2.2 rfl (.slice (some ⟨W7.heap.size, 0, none⟩) 0 0) [] _ (by rfl) ((OwnR.lit0 (w0 := W7) (w := W7.drew) 78 (Nat.le_refl _) rfl).gr gd) _ gps s5 (by rfl) (HSRC.out.gr gd) (fun b hb hm => by have h1 := ownB hb; have h2 := HGSUB.out b hm; omega) (by unfold maxLen; simp; omega) (by simp; omega) ?_
        intro v9 w9 k1 k2 k3 k4
        rw [List.nil_append, List.nil_append] at k1
        have K1 := Lib.hid k1
        have K4 := Lib.hid k4
        have hs9 := k4.size
        have HX := Lib.hid (SrcR.wr (SrcR.one (w := W7.drew.alloc (.cells #[] 78)) (e := 78) (y := ((q4, q3, ks) : GCell)) (g := W7.heap.size + 1) (by simp) (rdCell_mk q4 q3 ks HQ.out.2 HQ.out.1 (HKR7.out.gr gd))) k2 (fun b hb hm => by have h1 := ownB hb; have h3 : b = W7.heap.size := (by simpa [Value.ownBlock] using hm); omega) (fun c hc hm => by have h1 := HKL.out c (by simpa using hc); have h3 : c = W7.heap.size := (by simpa [Value.ownBlock] using hm); omega))
        clear k1 k2 k3
        refine hK.out _ _ k4 (fun hU3 => ?_)
        clear hK K k4
        try simp only [Act.put, uq1, uq2, uq3]
        refine anyU_ready (rs := [6]) (by kernel_rfl) (by simp) ?_
        refine (ReadyU.cons rfl (fun K hK => ?_) ReadyU.nil)
        refine step_append_RB (α := GCell) (wg := W7) (w0 := W7) (w := w9) (by first | exact K4.out | exact K4.out.trans gd) (Nat.le_refl _) (by first | omega | (simp; omega)) (by rfl) _ _ _ (by rfl) 78 iC (.agg #[.string ByteArray.empty, .int .i64 0, .slice none 0 0]) 48 Try.underlying30 HZC.out.1 HZC.out.2.1 HZC.out.2.2.1 HZC.out.2.2.2 rfl v9 gps s5 (by rfl) (by first | exact K1.out | exact K1.out.gr gd) _ [fqk] [(q4, q3, ks)] (by rfl) (HX.out) (fun b hb hm => by have h1 := (K1.out.base b hb).1; have h2 := HKL.out b (by simpa using hm); omega) (by unfold maxLen; simp; omega) (by simp; omega) ?_
        intro v10 w10 k1 k2 k3 k4
        have L1 := Lib.hid k1
        have L4 := Lib.hid k4
        have hs10 := k4.size
        obtain ⟨a10, c10, hv10⟩ := k1.form
        rw [show (s5 ++ [((q4, q3, ks) : GCell)]).length = s5.length + 1 by simp] at hv10
        subst hv10
        have sb10 := (HSB7.out.gr k4).box
        have fsb10 := (HSB7.out.gr k4).frozen 0
        have zsb10 := blk sb10
        clear k1 k2 k3
        refine hK.out _ _ k4 (fun hU4 => ?_)
        clear hK K k4
        try simp only [Act.put, uq1, uq2, uq3]
        refine anyU_q 7 ?_
        try simp only [Act.put, uq1, uq2, uq3]
        refine anyU_ready (rs := [8]) (by kernel_rfl) (by simp) ?_
        refine ReadyU.last rfl (fun K hK => ?_)
        go_simp
        refine hK.out _ _ ?_
        clear hK K
        try simp only [Act.put, uq1, uq2, uq3]
        refine anyU_done (by kernel_rfl) ?_ _
        have hFX : ∀ b ∈ (Value.slice a10 (s5.length + 1) c10).ownBlock.toList ++ (gps.flatten ++ fqk), b ∉ [w.heap.size] ∧ b ≠ cb ∧ b ≠ w.heap.size + 1 + 1 ∧ (b ∈ fs0 ∨ W2.heap.size ≤ b) := fun b hb => by
         have hb2 : (b ∈ fs0 ∨ W2.heap.size ≤ b) ∧ b ≠ cb := by
          rcases List.mem_append.1 hb with h | h
          ·have := (L1.out.base b (by simpa using h)).1
           exact ⟨.inr (by omega), by omega⟩
          ·rcases List.mem_append.1 h with h | h
           ·have h1 := HGSUB2.out b h
            exact ⟨HF5.out b h1, fun e => HCB5.out (by rw [← e]; exact h1)⟩
           ·have h1 := HKL.out b h
            exact ⟨.inr h1.2, by omega⟩
         have h3 : b < w.heap.size ∨ W2.heap.size ≤ b := hb2.1.imp (HFLS.out b) id
         exact ⟨fun hm => by have := List.mem_singleton.1 hm; omega, hb2.2, by omega, hb2.1⟩
        generalize hW8 : w10.setCell ⟨w.heap.size, 0, none⟩ (.slice a10 (s5.length + 1) c10) = W8
        have wW8 : Wr [w.heap.size] w10 W8 := by rw [← hW8]; exact (Wr.refl [w.heap.size] _).setCell (List.mem_singleton.2 rfl) _
        have HSB8 := Lib.hid (show VRow W8 w.heap.size 32 [.slice a10 (s5.length + 1) c10] by rw [← hW8]; exact (HSB7.out.gr L4.out).set 0 _)
        have HVR8 := Lib.hid ((HVR7.out.gr L4.out).wr wW8 (by simp; omega))
        have HVC8 := Lib.hid (VRow.wr (VRow.gr HVC7.out L4.out) wW8 (by simp; omega))
        have HG8 := Lib.hid (show Gr w0 W8 by rw [← hW8]; exact Gr.setCell (p := ⟨w.heap.size, 0, none⟩) (HG7.out.trans L4.out) (by show _ ≤ w.heap.size; omega) _)
        have HW8 := Lib.hid ((HW7.out.gr L4.out).more2 wW8 (fun x hx => .inr (by rw [List.mem_singleton.1 hx]; omega)))
        obtain ⟨fs8, hs8, hf8⟩ := L1.out.slR (by simp; unfold reachLen; omega)
        have hf8' : ∀ b ∈ fs8, b ∈ (Value.slice a10 (s5.length + 1) c10).ownBlock.toList ++ (gps.flatten ++ fqk) := fun b hb => by
         rcases hf8 with ⟨-, h⟩ | ⟨c, h1, h2⟩
         ·rw [h] at hb; simp at hb
         ·rw [h2] at hb
          rcases List.mem_cons.1 hb with h | h
          ·subst h; exact List.mem_append_left _ (by rw [h1]; simp)
          ·rw [List.flatten_append] at h
           exact List.mem_append_right _ (by simpa using h)
        have HSL8 := Lib.hid (hs8.wr wW8 (fun b hb => (hFX b (hf8' b hb)).1))
        have HF8 := Lib.hid (show cb ∉ fs8 ∧ ∀ b ∈ fs8, b ∈ fs0 ∨ W2.heap.size ≤ b from ⟨fun hm => (hFX cb (hf8' cb hm)).2.1 rfl, fun b hb => (hFX b (hf8' b hb)).2.2.2⟩)
        have iwn : IntKind.i64.wrap ((s5.length : Int) + 1 - 1) = (s5.length : Int) := by rw [IntWalk.i64_in _ (by omega)]; omega
        clear hW8 wW8 hs8 hf8 hf8' hFX hU hU1 hU2 hU3 hU4 kk0 kk1 kk2 kk3
        have hdi5 : i < d5.length := by have := HD5.out; omega
        have y8 := DRow.cell HVC8.out hdi5
        have zy8 := blk y8
        have fy8 := VRow.frozen HVC8.out i
        have sb8 := HSB8.out.box
        have zsb8 := blk sb8
        have rb8 := HVR8.out.box
        have zrb8 := blk rb8
        have frb8 := HVR8.out.frozen 0
        go_wp2_with fail
        generalize hWF : (W8.setCell ⟨cb, i, none⟩ (.int .i64 (s5.length : Int))).setCell ⟨w.heap.size + 1 + 1, 0, none⟩ (.slice a10 (s5.length + 1) c10) = WF
        have vF : VRow WF (w.heap.size + 1 + 1) 32 [.slice a10 (s5.length + 1) c10] := by rw [← hWF]; exact (HVR8.out.ne (by omega)).set 0 _
        have gF : Gr w0 WF := by rw [← hWF]; exact Gr.setCell (p := ⟨w.heap.size + 1 + 1, 0, none⟩) (Gr.setCell (p := ⟨cb, i, none⟩) HG8.out hcb _) (by show _ ≤ w.heap.size + 1 + 1; omega) _
        have wF : Wr [cb] w WF := by rw [← hWF]; exact (HW8.out.setCell (List.mem_singleton.2 rfl) _).more2 ((Wr.refl [w.heap.size + 1 + 1] _).setCell (List.mem_singleton.2 rfl) _) (fun x hx => .inr (by rw [List.mem_singleton.1 hx]; omega))
        have cF : DRow rest WF cb (d5.set i (s5.length : Int)) := by rw [← hWF]; exact VRow.ne (DRow.set HVC8.out hdi5 (s5.length : Int)) (by omega)
        have sF : SlR fs8 WF (.slice a10 (s5.length + 1) c10) (s5 ++ [((q4, q3, ks) : GCell)]) := by
         rw [← hWF]
         exact (HSL8.out.wr ((Wr.refl [cb] _).setCell (List.mem_singleton.2 rfl) _) (fun b hb hm => by rw [List.mem_singleton.1 hm] at hb; exact HF8.out.1 hb)).wr ((Wr.refl [w.heap.size + 1 + 1] _).setCell (List.mem_singleton.2 rfl) _) (fun b hb hm => by
          rw [List.mem_singleton.1 hm] at hb
          rcases HF8.out.2 _ hb with h | h
          ·have := HFLS.out _ h; omega
          ·omega)
        have r0' := vF.box
        clear hWF vF
        refine bodyPost_ret (v := .tuple #[.agg #[.slice a10 (s5.length + 1) c10], .int .i64 (s5.length : Int)]) (by simp [results, Try.results33, go_sem, r0']) rfl ⟨a10, (s5.length + 1), c10, (s5.length : Int), d5.set i (s5.length : Int), rfl, gF, wF, cF, (fun h => by rw [HRS.out] at h; cases h), (fun s'' d'' y'' h => ?_)⟩
        rw [HRS.out] at h
        simp only [Option.some.injEq, Prod.mk.injEq] at h
        obtain ⟨e1, e2, e3⟩ := h
        refine ⟨e3, e2, fs8, by rw [← e1]; exact sF, fun b hb => ?_⟩
        rcases HF8.out.2 b hb with h | h
        ·exact .inl (by rw [FPs.out]; exact h)
        ·exact .inr (by omega)
      ·skip
       go_simp
       refine hK.out _ _ gd (fun hU2 => ?_)
       clear hK K
       try simp only [Act.put, uq1, uq2, uq3]
       refine anyU_ready (rs := [0]) (by kernel_rfl) (by simp) ?_
       refine (ReadyU.cons rfl (fun K hK => ?_) ReadyU.nil)
       go_simp
       refine hK.out _ _ gd (fun hU1 => ?_)
       clear hK K
       try simp only [Act.put, uq1, uq2, uq3]
       refine anyU_ready (rs := [3]) (by kernel_rfl) (by simp) ?_
       refine (ReadyU.cons rfl (fun K hK => ?_) ReadyU.nil)
       refine step_append_RB (α := GCell) (wg := W7) (w0 := W7) (w := (W7.drew.alloc (.cells #[.string q4, .int .i64 q3, .slice ac ks.length cc] 78)).alloc (.cells #[] 78)) (by exact gd) (Nat.le_refl _) (by exact (Gr.size (by exact gd))) (by rfl) _ _ _ (by rfl) 78 iC (.agg #[.string ByteArray.empty, .int .i64 0, .slice none 0 0]) 48 Try.underlying30 HZC.out.1 HZC.out.2.1 HZC.out.2.2.1 HZC.out.2.2.2 rfl (.slice (some ⟨W7.heap.size + 1, 0, none⟩) 0 0) [] _ (by rfl) ((OwnR.lit0 (w0 := W7) (w := W7.drew.alloc (.cells #[.string q4, .int .i64 q3, .slice ac ks.length cc] 78)) 78 (by simp) (by simp)).gr gd) _ gps s5 (by rfl) (HSRC.out.gr gd) (fun b hb hm => by have h1 := ownB hb; have h2 := HGSUB.out b hm; omega) (by unfold maxLen; simp; omega) (by simp; omega) ?_
       intro v9 w9 k1 k2 k3 k4
       rw [List.nil_append, List.nil_append] at k1
       have K1 := Lib.hid k1
       have K4 := Lib.hid k4
       have hs9 := k4.size
       have HX := Lib.hid (SrcR.wr ((SrcR.one (w := W7.drew) (e := 78) (y := ((q4, q3, ks) : GCell)) (g := W7.heap.size) rfl (rdCell_mk q4 q3 ks HQ.out.2 HQ.out.1 (HKR7.out.gr gd))).gr (Gr.alloc (Gr.refl _) (.cells #[] 78))) k2 (fun b hb hm => by have h1 := ownB hb; have h3 : b = W7.heap.size + 1 := (by simpa [Value.ownBlock] using hm); omega) (fun c hc hm => by have h1 := HKL.out c (by simpa using hc); have h3 : c = W7.heap.size + 1 := (by simpa [Value.ownBlock] using hm); omega))
       clear k1 k2 k3
       refine hK.out _ _ k4 (fun hU3 => ?_)
       clear hK K k4
       try simp only [Act.put, uq1, uq2, uq3]
       refine anyU_ready (rs := [6]) (by kernel_rfl) (by simp) ?_
       refine (ReadyU.cons rfl (fun K hK => ?_) ReadyU.nil)
       refine step_append_RB (α := GCell) (wg := W7) (w0 := W7) (w := w9) (by first | exact K4.out | exact K4.out.trans gd) (Nat.le_refl _) (by first | omega | (simp; omega)) (by rfl) _ _ _ (by rfl) 78 iC (.agg #[.string ByteArray.empty, .int .i64 0, .slice none 0 0]) 48 Try.underlying30 HZC.out.1 HZC.out.2.1 HZC.out.2.2.1 HZC.out.2.2.2 rfl v9 gps s5 (by rfl) (by first | exact K1.out | exact K1.out.gr gd) _ [fqk] [(q4, q3, ks)] (by rfl) (HX.out) (fun b hb hm => by have h1 := (K1.out.base b hb).1; have h2 := HKL.out b (by simpa using hm); omega) (by unfold maxLen; simp; omega) (by simp; omega) ?_
       intro v10 w10 k1 k2 k3 k4
       have L1 := Lib.hid k1
       have L4 := Lib.hid k4
       have hs10 := k4.size
       obtain ⟨a10, c10, hv10⟩ := k1.form
       rw [show (s5 ++ [((q4, q3, ks) : GCell)]).length = s5.length + 1 by simp] at hv10
       subst hv10
       have sb10 := (HSB7.out.gr k4).box
       have fsb10 := (HSB7.out.gr k4).frozen 0
       have zsb10 := blk sb10
       clear k1 k2 k3
       refine hK.out _ _ k4 (fun hU4 => ?_)
       clear hK K k4
       try simp only [Act.put, uq1, uq2, uq3]
       refine anyU_q 7 ?_
       try simp only [Act.put, uq1, uq2, uq3]
       refine anyU_ready (rs := [8]) (by kernel_rfl) (by simp) ?_
       refine ReadyU.last rfl (fun K hK => ?_)
       go_simp
       refine hK.out _ _ ?_
       clear hK K
       try simp only [Act.put, uq1, uq2, uq3]
       refine anyU_done (by kernel_rfl) ?_ _
       have hFX : ∀ b ∈ (Value.slice a10 (s5.length + 1) c10).ownBlock.toList ++ (gps.flatten ++ fqk), b ∉ [w.heap.size] ∧ b ≠ cb ∧ b ≠ w.heap.size + 1 + 1 ∧ (b ∈ fs0 ∨ W2.heap.size ≤ b) := fun b hb => by
        have hb2 : (b ∈ fs0 ∨ W2.heap.size ≤ b) ∧ b ≠ cb := by
         rcases List.mem_append.1 hb with h | h
         ·have := (L1.out.base b (by simpa using h)).1
          exact ⟨.inr (by omega), by omega⟩
         ·rcases List.mem_append.1 h with h | h
          ·have h1 := HGSUB2.out b h
           exact ⟨HF5.out b h1, fun e => HCB5.out (by rw [← e]; exact h1)⟩
          ·have h1 := HKL.out b h
           exact ⟨.inr h1.2, by omega⟩
        have h3 : b < w.heap.size ∨ W2.heap.size ≤ b := hb2.1.imp (HFLS.out b) id
        exact ⟨fun hm => by have := List.mem_singleton.1 hm; omega, hb2.2, by omega, hb2.1⟩
       generalize hW8 : w10.setCell ⟨w.heap.size, 0, none⟩ (.slice a10 (s5.length + 1) c10) = W8
       have wW8 : Wr [w.heap.size] w10 W8 := by rw [← hW8]; exact (Wr.refl [w.heap.size] _).setCell (List.mem_singleton.2 rfl) _
       have HSB8 := Lib.hid (show VRow W8 w.heap.size 32 [.slice a10 (s5.length + 1) c10] by rw [← hW8]; exact (HSB7.out.gr L4.out).set 0 _)
       have HVR8 := Lib.hid ((HVR7.out.gr L4.out).wr wW8 (by simp; omega))
       have HVC8 := Lib.hid (VRow.wr (VRow.gr HVC7.out L4.out) wW8 (by simp; omega))
       have HG8 := Lib.hid (show Gr w0 W8 by rw [← hW8]; exact Gr.setCell (p := ⟨w.heap.size, 0, none⟩) (HG7.out.trans L4.out) (by show _ ≤ w.heap.size; omega) _)
       have HW8 := Lib.hid ((HW7.out.gr L4.out).more2 wW8 (fun x hx => .inr (by rw [List.mem_singleton.1 hx]; omega)))
       obtain ⟨fs8, hs8, hf8⟩ := L1.out.slR (by simp; unfold reachLen; omega)
       have hf8' : ∀ b ∈ fs8, b ∈ (Value.slice a10 (s5.length + 1) c10).ownBlock.toList ++ (gps.flatten ++ fqk) := fun b hb => by
        rcases hf8 with ⟨-, h⟩ | ⟨c, h1, h2⟩
        ·rw [h] at hb; simp at hb
        ·rw [h2] at hb
         rcases List.mem_cons.1 hb with h | h
         ·subst h; exact List.mem_append_left _ (by rw [h1]; simp)
         ·rw [List.flatten_append] at h
          exact List.mem_append_right _ (by simpa using h)
       have HSL8 := Lib.hid (hs8.wr wW8 (fun b hb => (hFX b (hf8' b hb)).1))
       have HF8 := Lib.hid (show cb ∉ fs8 ∧ ∀ b ∈ fs8, b ∈ fs0 ∨ W2.heap.size ≤ b from ⟨fun hm => (hFX cb (hf8' cb hm)).2.1 rfl, fun b hb => (hFX b (hf8' b hb)).2.2.2⟩)
       have iwn : IntKind.i64.wrap ((s5.length : Int) + 1 - 1) = (s5.length : Int) := by rw [IntWalk.i64_in _ (by omega)]; omega
       clear hW8 wW8 hs8 hf8 hf8' hFX hU hU1 hU2 hU3 hU4 kk0 kk1 kk2 kk3
       have hdi5 : i < d5.length := by have := HD5.out; omega
       have y8 := DRow.cell HVC8.out hdi5
       have zy8 := blk y8
       have fy8 := VRow.frozen HVC8.out i
       have sb8 := HSB8.out.box
       have zsb8 := blk sb8
       have rb8 := HVR8.out.box
       have zrb8 := blk rb8
       have frb8 := HVR8.out.frozen 0
       go_wp2_with fail
       generalize hWF : (W8.setCell ⟨cb, i, none⟩ (.int .i64 (s5.length : Int))).setCell ⟨w.heap.size + 1 + 1, 0, none⟩ (.slice a10 (s5.length + 1) c10) = WF
       have vF : VRow WF (w.heap.size + 1 + 1) 32 [.slice a10 (s5.length + 1) c10] := by rw [← hWF]; exact (HVR8.out.ne (by omega)).set 0 _
       have gF : Gr w0 WF := by rw [← hWF]; exact Gr.setCell (p := ⟨w.heap.size + 1 + 1, 0, none⟩) (Gr.setCell (p := ⟨cb, i, none⟩) HG8.out hcb _) (by show _ ≤ w.heap.size + 1 + 1; omega) _
       have wF : Wr [cb] w WF := by rw [← hWF]; exact (HW8.out.setCell (List.mem_singleton.2 rfl) _).more2 ((Wr.refl [w.heap.size + 1 + 1] _).setCell (List.mem_singleton.2 rfl) _) (fun x hx => .inr (by rw [List.mem_singleton.1 hx]; omega))
       have cF : DRow rest WF cb (d5.set i (s5.length : Int)) := by rw [← hWF]; exact VRow.ne (DRow.set HVC8.out hdi5 (s5.length : Int)) (by omega)
       have sF : SlR fs8 WF (.slice a10 (s5.length + 1) c10) (s5 ++ [((q4, q3, ks) : GCell)]) := by
        rw [← hWF]
        exact (HSL8.out.wr ((Wr.refl [cb] _).setCell (List.mem_singleton.2 rfl) _) (fun b hb hm => by rw [List.mem_singleton.1 hm] at hb; exact HF8.out.1 hb)).wr ((Wr.refl [w.heap.size + 1 + 1] _).setCell (List.mem_singleton.2 rfl) _) (fun b hb hm => by
         rw [List.mem_singleton.1 hm] at hb
         rcases HF8.out.2 _ hb with h | h
         ·have := HFLS.out _ h; omega
         ·omega)
       have r0' := vF.box
       clear hWF vF
       refine bodyPost_ret (v := .tuple #[.agg #[.slice a10 (s5.length + 1) c10], .int .i64 (s5.length : Int)]) (by simp [results, Try.results33, go_sem, r0']) rfl ⟨a10, (s5.length + 1), c10, (s5.length : Int), d5.set i (s5.length : Int), rfl, gF, wF, cF, (fun h => by rw [HRS.out] at h; cases h), (fun s'' d'' y'' h => ?_)⟩
       rw [HRS.out] at h
       simp only [Option.some.injEq, Prod.mk.injEq] at h
       obtain ⟨e1, e2, e3⟩ := h
       refine ⟨e3, e2, fs8, by rw [← e1]; exact sF, fun b hb => ?_⟩
       rcases HF8.out.2 b hb with h | h
       ·exact .inl (by rw [FPs.out]; exact h)
       ·exact .inr (by omega)
     ·have hRS := HRS0.out
      rw [if_neg hneg] at hRS
      have HRS := Lib.hid hRS
      have HSL8 := HSL7
      have HVR8 := HVR7
      have HVC8 := HVC7
      have HSB8 := HSB7
      have HG8 := HG7
      have HW8 := HW7
      have HF8 := Lib.hid (And.intro HCB5.out HF5.out)
      clear hRS
      have hdi5 : i < d5.length := by have := HD5.out; omega
      have y8 := DRow.cell HVC8.out hdi5
      have zy8 := blk y8
      have fy8 := VRow.frozen HVC8.out i
      have sb8 := HSB8.out.box
      have zsb8 := blk sb8
      have rb8 := HVR8.out.box
      have zrb8 := blk rb8
      have frb8 := HVR8.out.frozen 0
      go_wp2_with fail
      generalize hWF : (W7.setCell ⟨cb, i, none⟩ (.int .i64 j)).setCell ⟨w.heap.size + 1 + 1, 0, none⟩ (.slice a5 s5.length c5) = WF
      have vF : VRow WF (w.heap.size + 1 + 1) 32 [.slice a5 s5.length c5] := by rw [← hWF]; exact (HVR8.out.ne (by omega)).set 0 _
      have gF : Gr w0 WF := by rw [← hWF]; exact Gr.setCell (p := ⟨w.heap.size + 1 + 1, 0, none⟩) (Gr.setCell (p := ⟨cb, i, none⟩) HG8.out hcb _) (by show _ ≤ w.heap.size + 1 + 1; omega) _
      have wF : Wr [cb] w WF := by rw [← hWF]; exact (HW8.out.setCell (List.mem_singleton.2 rfl) _).more2 ((Wr.refl [w.heap.size + 1 + 1] _).setCell (List.mem_singleton.2 rfl) _) (fun x hx => .inr (by rw [List.mem_singleton.1 hx]; omega))
      have cF : DRow rest WF cb (d5.set i j) := by rw [← hWF]; exact VRow.ne (DRow.set HVC8.out hdi5 j) (by omega)
      have sF : SlR fs5 WF (.slice a5 s5.length c5) s5 := by
       rw [← hWF]
       exact (HSL8.out.wr ((Wr.refl [cb] _).setCell (List.mem_singleton.2 rfl) _) (fun b hb hm => by rw [List.mem_singleton.1 hm] at hb; exact HF8.out.1 hb)).wr ((Wr.refl [w.heap.size + 1 + 1] _).setCell (List.mem_singleton.2 rfl) _) (fun b hb hm => by
        rw [List.mem_singleton.1 hm] at hb
        rcases HF8.out.2 _ hb with h | h
        ·have := HFLS.out _ h; omega
        ·omega)
      have r0' := vF.box
      clear hWF vF
      refine bodyPost_ret (v := .tuple #[.agg #[.slice a5 s5.length c5], .int .i64 j]) (by simp [results, Try.results33, go_sem, r0']) rfl ⟨a5, s5.length, c5, j, d5.set i j, rfl, gF, wF, cF, (fun h => by rw [HRS.out] at h; cases h), (fun s'' d'' y'' h => ?_)⟩
      rw [HRS.out] at h
      simp only [Option.some.injEq, Prod.mk.injEq] at h
      obtain ⟨e1, e2, e3⟩ := h
      refine ⟨e3, e2, fs5, by rw [← e1]; exact sF, fun b hb => ?_⟩
      rcases HF8.out.2 b hb with h | h
      ·exact .inl (by rw [FPs.out]; exact h)
      ·exact .inr (by omega)
end Go.Proofs.Ytmfcagcanhmdbaa
