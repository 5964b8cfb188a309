/- Subtrees put under a root: the reference's. No condition. -/
import Derived.Test.YtmfcagcanhmdbaaH05
import Derived.Test.YtmfcagcanhmdbaaH09
import Derived.Test.YtmfcagcanhmdbaaH06
import Derived.Deep.DeepCutAuto
namespace Go.Proofs.Ytmfcagcanhmdbaa
open Go.RowKit
set_option linter.unusedVariables false
set_option linter.unusedSimpArgs false

def MadeT (w : World) (ns : List GNode) (e : Ending) (w' : World) : Prop :=
 ∃ v F, e = .returned (.agg #[v]) ∧ OwnT w w' v F ns ∧ Gr w w'

def SmallT (ts : List (List GNode)) : Prop :=
 ts.length ≤ 1048576 ∧ (ts.map List.length).sum ≤ 1048576 ∧ ∀ t ∈ ts, ∀ x ∈ t, -1 ≤ x.2.1 ∧ x.2.1 ≤ 1048576 ∧ x.2.2.2.2.2.length ≤ 1048576 ∧ ∀ c ∈ x.2.2.2.2.2, -1 ≤ c ∧ c ≤ 1048576

set_option maxRecDepth 100000 in
set_option maxHeartbeats 16000000 in
theorem l13Join_any {fr : List Nat} {cr : Array Value} (r : GNode) {fts : List Nat} {vts : Value} (ts : List GTree) (w : World) (hr : Rd.rd fr w cr.toList r) (hts : SlR fts w vts ts) (hsm : SmallT ts) :
  Calls Try.prog 81 #[.agg cr, vts] w (MadeT w (joN r ts)) := by
 obtain ⟨i0, hi, hz0, hz1, hz2⟩ := info_parts Try.infoIntC
 have HZ := Lib.hid (And.intro hi (And.intro hz0 (And.intro hz1 hz2)))
 clear hi hz0 hz1 hz2
 obtain ⟨iN, hi, hz0, hz1, hz2⟩ := info_parts Try.infoNode
 have HZN := Lib.hid (And.intro hi (And.intro hz0 (And.intro hz1 hz2)))
 clear hi hz0 hz1 hz2
 have HSM := Lib.hid hsm
 clear hsm
 have HR := Lib.hid hr
 obtain ⟨r0, r1, r2, r3, r4, r5⟩ := r
 obtain ⟨vr5, fr5, rfl, hfpr, hr0, hr1, hr2, hr3, hr4, hr5⟩ := rdNode_inv r0 r1 r2 r3 r4 r5 hr
 have FPr := Lib.hid hfpr
 clear hfpr
 obtain ⟨ar5, kr5, rfl, or51, or52, or53⟩ := hr5.open
 clear hr
 have HTS := Lib.hid hts
 obtain ⟨ats, kts, rfl, ots1, ots2, ots3⟩ := hts.open
 have HR := Lib.hid (And.intro hr0 (And.intro hr3 hr4))
 go_enter Try.func81, Try.ntmps81
 go_wp2_with fail
 generalize hB : (((((w.alloc (.cells #[.int .i64 r0, .int .i64 (-1), .int .i64 0, .int .i64 r3, .string r4, .slice (some ⟨w.heap.size + 1 + 1, 0, none⟩) 0 0] 86)).alloc (.cells #[.slice none 0 0] 38)).alloc (.cells #[] 3)).alloc (.cells #[.int .i64 r0, .int .i64 (-1), .int .i64 0, .int .i64 r3, .string r4, .slice (some ⟨w.heap.size + 1 + 1, 0, none⟩) 0 0] 86)).alloc (.cells #[.slice (some ⟨w.heap.size + 1 + 1 + 1, 0, none⟩) 1 1] 38)) = B
 have gB : Gr w B := by rw [← hB]; exact gd
 have sB : B.heap.size = w.heap.size + 5 := by rw [← hB]; simp
 have vR : VRow B (w.heap.size + 1) 38 [.slice none 0 0] := by
  rw [← hB]
  repeat (first | ((with_reducible refine VRow.new ?_) <;> first | omega | (simp; done) | (simp; omega) | rfl) | (with_reducible refine VRow.gr ?_ (Gr.alloc (Gr.refl _) _)) | (with_reducible refine VRow.gr ?_ (Gr.ext (Gr.refl _) _)) | (with_reducible refine VRow.gr ?_ (Gr.drew (Gr.refl _))))
 have vO : VRow B (w.heap.size + 1 + 1 + 1 + 1) 38 [.slice (some ⟨w.heap.size + 1 + 1 + 1, 0, none⟩) 1 1] := by
  rw [← hB]
  repeat (first | ((with_reducible refine VRow.new ?_) <;> first | omega | (simp; done) | (simp; omega) | rfl) | (with_reducible refine VRow.gr ?_ (Gr.alloc (Gr.refl _) _)) | (with_reducible refine VRow.gr ?_ (Gr.ext (Gr.refl _) _)) | (with_reducible refine VRow.gr ?_ (Gr.drew (Gr.refl _))))
 have tO : OwnT w B (.slice (some ⟨w.heap.size + 1 + 1 + 1, 0, none⟩) 1 1) [w.heap.size + 1 + 1 + 1, w.heap.size + 1 + 1] [(r0, -1, 0, r3, r4, [])] := by
  rw [← hB]
  exact OwnT.gr (OwnT.lit1 (w0 := w) (w := ((w.alloc (.cells #[.int .i64 r0, .int .i64 (-1), .int .i64 0, .int .i64 r3, .string r4, .slice (some ⟨w.heap.size + 1 + 1, 0, none⟩) 0 0] 86)).alloc (.cells #[.slice none 0 0] 38)).alloc (.cells #[] 3)) (by simp <;> omega) (by simp) HR.out.1 (by decide) (by decide) HR.out.2.1 HR.out.2.2 (OwnR.lit0 (α := Int) (w0 := w) (w := (w.alloc (.cells #[.int .i64 r0, .int .i64 (-1), .int .i64 0, .int .i64 r3, .string r4, .slice (some ⟨w.heap.size + 1 + 1, 0, none⟩) 0 0] 86)).alloc (.cells #[.slice none 0 0] 38)) 3 (by simp <;> omega) (by simp))) ((Gr.refl _).alloc _)
 have HVR := Lib.hid vR
 have HVO := Lib.hid vO
 have HTO := Lib.hid tO
 have HGB := Lib.hid gB
 have HSB := Lib.hid sB
 clear hB vR vO tO gB sB
 go_loopw [6] (fun s6 wr => ∃ (k : Nat) (v : Value) (F : List Nat), k ≤ ts.length ∧ Hid (Gr w wr) ∧ w.heap.size + 5 ≤ wr.heap.size ∧ Hid (VRow wr (w.heap.size + 1) 38 [.slice none 0 0]) ∧ Hid (VRow wr (w.heap.size + 1 + 1 + 1 + 1) 38 [v]) ∧ Hid (OwnT w wr v F (joN (r0, r1, r2, r3, r4, r5) (ts.take k))) ∧ Hid (∀ b ∈ F, b ≠ w.heap.size + 1 ∧ b ≠ w.heap.size + 1 + 1 + 1 + 1) ∧ s6 = .int .i64 k) (fun s6 _ => ts.length - (intOf s6).toNat)
 case atStart => exact ⟨0, _, _, by omega, HGB, by have := HSB.out; omega, HVR, HVO, HTO, Lib.hid (fun b hb => by simp at hb; omega), rfl⟩
 case round =>
  obtain ⟨k, v, F, hk, HG, hs5, HVR, HVO, HTO, HF, rfl⟩ := hrel
  rename World => W3
  obtain ⟨NS, hNS⟩ : ∃ NS, NS = joN (r0, r1, r2, r3, r4, r5) (ts.take k) := ⟨_, rfl⟩
  rw [← hNS] at HTO
  obtain ⟨CH, hCH⟩ : ∃ CH, CH = (joK 1 1 (ts.take k)).1 := ⟨_, rfl⟩
  have hN1 : NS.length = 1 + (joK 1 1 (ts.take k)).2.length := by rw [hNS]; unfold joN; rw [List.length_cons]; omega
  have hN2 : (joK 1 1 (ts.take k)).2.length ≤ 1048576 := by
   rw [(joK_len _ 1 1).1]
   exact Nat.le_trans (sum_take_le List.length ts k) HSM.out.2.1
  have hlen : NS.length ≤ 1048577 := by omega
  have hpos : 0 < NS.length := by omega
  have hCl : CH.length ≤ 1048576 := by
   rw [hCH, (joK_len _ 1 1).2, List.length_take]
   have := HSM.out.1
   omega
  have hN0 : NS[0] = (r0, -1, 0, r3, r4, CH) := by subst hNS hCH; rfl
  have HNS := Lib.hid hNS
  have HCH := Lib.hid hCH
  have hG := HG.out
  obtain ⟨av, cv, hform⟩ := HTO.out.form
  subst hform
  clear hN1 hN2 hNS hCH
  by_cases hlk : k < ts.length
  ·obtain ⟨g, cap, vj, fpj, ev, hgl, hgw, hgF, hcell, hfz, hOj, hfj, hgn, hvF, hgrow, -⟩ := HTO.out.at hpos
   injection ev with ev1 ev2 ev3
   subst ev1 ev3
   rw [hN0] at hOj hgrow
   obtain ⟨T, hT⟩ : ∃ T, T = ts[k] := ⟨_, rfl⟩
   have hjo : joN (r0, r1, r2, r3, r4, r5) (ts.take (k + 1)) = NS.set 0 (r0, -1, 0, r3, r4, CH ++ [(NS.length : Int)]) ++ adjN ((k : Int) + 1) (NS.length : Int) T := by
    rw [List.take_succ_eq_append_getElem hlk, joN_snoc, ← HNS.out, ← HCH.out, ← hT, List.length_take, Nat.min_eq_left (by omega), show (1 : Int) + (k : Int) = (k : Int) + 1 from by omega]
   have hTs : T.length ≤ 1048576 := by
    have h1 := sum_take_succ List.length ts k hlk
    have h2 := sum_take_le List.length ts (k + 1)
    have h3 := HSM.out.2.1
    rw [hT]
    omega
   have hTb : ∀ x ∈ T, -1 ≤ x.2.1 ∧ x.2.1 ≤ 1048576 ∧ x.2.2.2.2.2.length ≤ 1048576 ∧ ∀ c ∈ x.2.2.2.2.2, -1 ≤ c ∧ c ≤ 1048576 := HSM.out.2.2 T (by rw [hT]; exact List.getElem_mem hlk)
   obtain ⟨bt, ot, rfl, hbt⟩ := ots3 k hlk
   obtain ⟨vT, fT, cT, sT, -⟩ := hts.sl_at hlk
   rw [← hT] at sT
   obtain ⟨aT, kT, rfl, oT1, oT2, oT3⟩ := sT.open
   have y0 := HVO.out.box
   have zy0 := blk y0
   have fy0 := HVO.out.frozen 0
   have e5 := hcell 5 vj rfl
   have fz := hfz 5
   rw [Nat.zero_mul, Nat.zero_add] at e5
   have zg := blk e5
   obtain ⟨aj, cj, hjf⟩ := hOj.form
   subst hjf
   have HJO := Lib.hid hjo
   have HTB := Lib.hid hTb
   have HTS := Lib.hid hT
   have HST := Lib.hid sT
   have HCT := Lib.hid cT
   have HOJ := Lib.hid hOj
   have HGROW := Lib.hid hgrow
   have HVF := Lib.hid hvF
   have HGN := Lib.hid hgn
   have HFJ := Lib.hid hfj
   have hon : w.heap.size + 1 + 1 + 1 + 1 ∉ (Value.slice aj CH.length cj).ownBlock.toList := fun hm => (HF.out _ (HVF.out _ hm)).2 rfl
   have HON := Lib.hid hon
   have HGF := Lib.hid hgF
   clear hjo hTb hT sT cT hOj hgrow hvF hgn hfj hcell hfz hN0 hgF hon
   have kk0 := fun (w' : World) (h : Wr (Value.slice aj CH.length cj).ownBlock.toList W3 w') => h.keepC y0 HON.out
   have kk1 := fun (w' : World) (h : Wr (Value.slice aj CH.length cj).ownBlock.toList W3 w') => h.keepC e5 HGN.out
   have u0 : (0 : Int) ≤ (k : Int) := by omega
   have u1 : (k : Int) < (ts.length : Int) := by omega
   have p0 : (0 : Int) < (NS.length : Int) := by omega
   go_wp2_with fail
   refine wp_region_U (fun w' => Wr (Value.slice aj CH.length cj).ownBlock.toList W3 w' ∧ Gr w w') 12 (by kernel_rfl) (⟨(Gr.drew (Gr.refl W3)).toWr _, hG.drew⟩) (fun hU => ?_)
   refine anyU_q 0 ?_
   try simp only [Act.put, uq1, uq2, uq3]
   refine anyU_q 2 ?_
   try simp only [Act.put, uq1, uq2, uq3]
   refine anyU_q 7 ?_
   try simp only [Act.put, uq1, uq2, uq3]
   refine anyU_q 1 ?_
   try simp only [Act.put, uq1, uq2, uq3]
   refine anyU_q 3 ?_
   try simp only [Act.put, uq1, uq2, uq3]
   refine anyU_q 4 ?_
   try simp only [Act.put, uq1, uq2, uq3]
   refine anyU_q 5 ?_
   try simp only [Act.put, uq1, uq2, uq3]
   refine anyU_q 6 ?_
   try simp only [Act.put, uq1, uq2, uq3]
   refine anyU_ready (rs := [8]) (by kernel_rfl) (by simp) ?_
   refine (ReadyU.cons rfl (fun K hK => ?_) ReadyU.nil)
   go_simp
   refine hK.out _ _ ⟨(gd : Gr W3 (W3.drew.alloc (.cells #[.int .i64 (NS.length : Int)] 3))).toWr _, HG.out.trans gd⟩ (fun hU1 => ?_)
   clear hK K
   try simp only [Act.put, uq1, uq2, uq3]
   refine anyU_ready (rs := [9]) (by kernel_rfl) (by simp) ?_
   refine (ReadyU.cons rfl (fun K hK => ?_) ReadyU.nil)
   refine step_append_RB (α := Int) (wg := w) (w0 := w) (HG.out.trans gd) (Nat.le_refl _) (by simp <;> omega) (by rfl) _ _ _ (by rfl) 3 i0 (.int .i64 0) 8 Try.underlying59 HZ.out.1 HZ.out.2.1 HZ.out.2.2.1 HZ.out.2.2.2 rfl (.slice aj CH.length cj) fpj _ (by rfl) (HOJ.out.gr gd) _ [[]] [(NS.length : Int)] (by rfl) (SrcR.gr (SrcR.one (w := W3) (e := 3) rfl (intRd (wf_small (by omega) (by omega)) _)) gd) (fun b _ => by simp) (by unfold maxLen; simp; omega) (by simp; omega) ?_
   intro v9 w9 k1 k2 k3 k4
   have g9 : Gr W3 (W3.drew.alloc (.cells #[.int .i64 (NS.length : Int)] 3)) := gd
   have hw9 : Wr (Value.slice aj CH.length cj).ownBlock.toList W3 w9 := (g9.toWr _).trans k2
   have e59 := hw9.keepC e5 HGN.out
   have f59 := hw9.frozenC fz zg HGN.out
   have z59 := blk e59
   have k3' : v9.ownBlock = (Value.slice aj CH.length cj).ownBlock ∨ ∃ n, v9.ownBlock = some n ∧ W3.heap.size ≤ n := k3.imp id fun h => ⟨_, h, g9.size⟩
   obtain ⟨F2, hT2, hF2⟩ := HGROW.out w9 v9 _ hw9 k1 k3'
   rw [Nat.zero_mul, Nat.zero_add] at hT2
   have HT2 := Lib.hid hT2
   have HF2 := Lib.hid hF2
   have HW9 := Lib.hid hw9
   have HG9 := Lib.hid k4
   obtain ⟨va, vc, rfl⟩ := k1.form
   clear g9 k1 k2 k3 k3' hT2 hF2 k4
   refine hK.out _ _ ⟨hw9, HG9.out⟩ (fun hU3 => ?_)
   clear hK K hw9
   try simp only [Act.put, uq1, uq2, uq3]
   refine anyU_ready (rs := [10]) (by kernel_rfl) (by simp) ?_
   refine (ReadyU.cons rfl (fun K hK => ?_) ReadyU.nil)
   go_simp
   refine hK.out _ _ (by assumption) (fun hU0 => ?_)
   clear hK K hU0
   try simp only [Act.put, uq1, uq2, uq3]
   refine anyU_q 11 ?_
   try simp only [Act.put, uq1, uq2, uq3]
   refine anyU_ready (rs := [12]) (by kernel_rfl) (by simp) ?_
   refine ReadyU.last rfl (fun K hK => ?_)
   go_simp
   refine hK.out _ _ ?_
   clear hK K
   try simp only [Act.put, uq1, uq2, uq3]
   refine anyU_done (by kernel_rfl) ?_ _
   generalize hW5 : w9.setCell ⟨g, 5, none⟩ (.slice va (CH.length + 1) vc) = W5
   have w5 : Wr (g :: (Value.slice aj CH.length cj).ownBlock.toList) W3 W5 := by rw [← hW5]; exact (HW9.out.sub fun c hc => List.mem_cons_of_mem _ hc).setCell (by simp) _
   have g5 : Gr w W5 := by rw [← hW5]; exact HG9.out.setCell (p := ⟨g, 5, none⟩) hgw _
   have hT5 := HT2.out
   have e5' : (Value.slice va (CH ++ [(NS.length : Int)]).length vc) = .slice va (CH.length + 1) vc := by simp
   rw [e5', hW5] at hT5
   have s5 : W3.heap.size ≤ W5.heap.size := w5.size
   have hgF : g ≠ w.heap.size + 1 ∧ g ≠ w.heap.size + 1 + 1 + 1 + 1 := HF.out g HGF.out
   have vR5 := HVR.out.wr w5 (fun hm => by
    rcases List.mem_cons.1 hm with h | h
    ·exact hgF.1 h.symm
    ·exact (HF.out _ (HVF.out _ h)).1 rfl)
   have vO5 := HVO.out.wr w5 (fun hm => by
    rcases List.mem_cons.1 hm with h | h
    ·exact hgF.2 h.symm
    ·exact (HF.out _ (HVF.out _ h)).2 rfl)
   have hF5 : ∀ b ∈ F2, b ≠ w.heap.size + 1 ∧ b ≠ w.heap.size + 1 + 1 + 1 + 1 := fun b hb => by
    rcases HF2.out b hb with h | h
    ·exact HF.out b h
    ·omega
   have HT5 := Lib.hid hT5
   have HVR5 := Lib.hid vR5
   have HVO5 := Lib.hid vO5
   have HF5 := Lib.hid hF5
   have HG5 := Lib.hid g5
   clear hW5 w5 g5 hT5 e5' vR5 vO5 hF5 hgF kk0 kk1 e59 f59 z59 hU hU1 hU3 y0 zy0 fy0 e5 fz zg
   obtain ⟨NT, hNT⟩ : ∃ NT, NT = NS.set 0 (r0, -1, 0, r3, r4, CH ++ [(NS.length : Int)]) := ⟨_, rfl⟩
   have hNTl : NT.length = NS.length := by rw [hNT, List.length_set]
   rw [← hNT] at HT5
   have HNT := Lib.hid hNT
   have HNTL := Lib.hid hNTl
   obtain ⟨AD, hAD⟩ : ∃ AD, AD = adjN ((k : Int) + 1) (NS.length : Int) T := ⟨_, rfl⟩
   have hADl : AD.length = T.length := by rw [hAD, adjN_len]
   have HAD := Lib.hid hAD
   have HADL := Lib.hid hADl
   clear hNT hNTl hAD hADl
   go_wp2_with fail
   go_loopw [8] (fun s8 wr => ∃ (i : Nat) (v : Value) (F : List Nat), i ≤ T.length ∧ Hid (Gr w wr) ∧ w.heap.size + 5 ≤ wr.heap.size ∧ Hid (VRow wr (w.heap.size + 1) 38 [.slice none 0 0]) ∧ Hid (VRow wr (w.heap.size + 1 + 1 + 1 + 1) 38 [v]) ∧ Hid (OwnT w wr v F (NT ++ AD.take i)) ∧ Hid (∀ b ∈ F, b ≠ w.heap.size + 1 ∧ b ≠ w.heap.size + 1 + 1 + 1 + 1) ∧ s8 = .int .i64 i) (fun s8 _ => T.length - (intOf s8).toNat)
   case atStart => exact ⟨0, _, _, by omega, HG5, by omega, HVR5, HVO5, by rw [List.take_zero, List.append_nil]; exact HT5, HF5, rfl⟩
   case round =>
    obtain ⟨i, v, F, hi', HG6, hs6, HVR6, HVO6, HT6, HF6, rfl⟩ := hrel
    rename World => W6
    have q1 := HG6.out.keep HCT.out
    have zq1 := blk q1
    obtain ⟨NU, hNU⟩ : ∃ NU, NU = NT ++ AD.take i := ⟨_, rfl⟩
    rw [← hNU] at HT6
    have hNUl : NU.length ≤ 2097153 := by
     rw [hNU, List.length_append, List.length_take, HNTL.out]
     have := HADL.out
     omega
    have HNU := Lib.hid hNU
    obtain ⟨au, cu, hform⟩ := HT6.out.form
    subst hform
    clear hNU
    by_cases hlt : i < T.length
    ·skip
     obtain ⟨b, off, rfl, hbb⟩ := oT3 i hlt
     obtain ⟨csq, feq, hcq, hrq, -⟩ := HST.out.at hlt
     obtain ⟨yq, hyq⟩ : ∃ y, y = T[i] := ⟨_, rfl⟩
     rw [← hyq] at hrq
     have HYq := Lib.hid hyq
     have HRq := Lib.hid hrq
     obtain ⟨q0, q1, q2, q3, q4, q5⟩ := yq
     obtain ⟨vq5, fq5, hcsq, -, hq0, hq1, hq2, hq3, hq4, hq5⟩ := rdNode_inv (cs := csq.toArray) q0 q1 q2 q3 q4 q5 (by simpa using hrq)
     obtain rfl : csq = [.int .i64 q0, .int .i64 q1, .int .i64 q2, .int .i64 q3, .string q4, vq5] := by have := congrArg Array.toList hcsq; simpa using this
     obtain ⟨aq5, kq5, rfl, oq51, oq52, oq53⟩ := hq5.open
     have qz0 := HG6.out.keep (show w.cell? ⟨b, off + i * 6, none⟩ = some (.int .i64 q0) from by simpa [Rd.n] using hcq 0 _ rfl)
     have qz1 := HG6.out.keep (show w.cell? ⟨b, off + i * 6 + 1, none⟩ = some (.int .i64 q1) from hcq 1 _ rfl)
     have qz2 := HG6.out.keep (show w.cell? ⟨b, off + i * 6 + 2, none⟩ = some (.int .i64 q2) from hcq 2 _ rfl)
     have qz3 := HG6.out.keep (show w.cell? ⟨b, off + i * 6 + 3, none⟩ = some (.int .i64 q3) from hcq 3 _ rfl)
     have qz4 := HG6.out.keep (show w.cell? ⟨b, off + i * 6 + 4, none⟩ = some (.string q4) from hcq 4 _ rfl)
     have qz5 := HG6.out.keep (show w.cell? ⟨b, off + i * 6 + 5, none⟩ = some (.slice aq5 q5.length kq5) from hcq 5 _ rfl)
     have qzb := blk qz0
     clear hcsq hcq hrq hyq
     have hTi := HTB.out (q0, q1, q2, q3, q4, q5) (by rw [HYq.out]; exact List.getElem_mem hlt)
     have hb1 : -1 ≤ q1 := hTi.1
     have hb2 : q1 ≤ 1048576 := hTi.2.1
     have hb3 : q5.length ≤ 1048576 := hTi.2.2.1
     have HB4 := Lib.hid (show ∀ c ∈ q5, -1 ≤ c ∧ c ≤ 1048576 from hTi.2.2.2)
     have HQ := Lib.hid (And.intro hq0 (And.intro hq3 hq4))
     have HQ2 := Lib.hid hq2
     have HQ5 := Lib.hid hq5
     have HADI := Lib.hid (show AD[i]? = some (q0, if i = 0 then 0 else q1 + (NS.length : Int), if i = 0 then (k : Int) + 1 else q2, q3, q4, q5.map (· + (NS.length : Int))) by
      rw [HAD.out, List.getElem?_eq_getElem (by rw [adjN_len]; exact hlt), adjN_at hlt, ← HYq.out])
     have iw1 : IntKind.i64.wrap (q1 + (NS.length : Int)) = q1 + (NS.length : Int) := IntWalk.i64_in _ (by omega)
     have iw2 : IntKind.i64.wrap ((k : Int) + 1) = (k : Int) + 1 := IntWalk.i64_in _ (by omega)
     clear hTi hq0 hq1 hq2 hq3 hq4 hq5
     have y0 := HVO6.out.box
     have zy0 := blk y0
     have fy0 := HVO6.out.frozen 0
     have w0' : (0 : Int) ≤ (i : Int) := by omega
     have w1' : (i : Int) < (T.length : Int) := by omega
     go_upto_if 64 with fail
     go_cut [] (fun wr => ∃ p l, Hid (p = (if i = 0 then 0 else q1 + (NS.length : Int)) ∧ l = (if i = 0 then (k : Int) + 1 else q2)) ∧ wr = W6.alloc (.cells #[.int .i64 q0, .int .i64 p, .int .i64 l, .int .i64 q3, .string q4, .slice aq5 q5.length kq5] 86))
     case first =>
      by_cases hi0 : i = 0
      ·have hbt : ((i : Int) == 0) = true := by simp [hi0]
       go_wp2_with fail
       go_meet
       exact ⟨0, (k : Int) + 1, Lib.hid ⟨by rw [if_pos hi0], by rw [if_pos hi0]⟩, rfl⟩
      ·have hbt : ((i : Int) == 0) = false := by simp; omega
       go_wp2_with fail
       go_meet
       exact ⟨q1 + (NS.length : Int), q2, Lib.hid ⟨by rw [if_neg hi0], by rw [if_neg hi0]⟩, rfl⟩
     case rest =>
      obtain ⟨p, l, HPL, rfl⟩ := hcut
      have hpw : (Lit.int .i64 p).wf = true := by
       rw [HPL.out.1]
       split
       ·decide
       ·exact wf_of (by omega) (by omega)
      have hlw : (Lit.int .i64 l).wf = true := by
       rw [HPL.out.2]
       split
       ·exact wf_of (by omega) (by omega)
       ·exact HQ2.out
      have HW2 := Lib.hid (And.intro hpw hlw)
      generalize hW7 : W6.alloc (.cells #[.int .i64 q0, .int .i64 p, .int .i64 l, .int .i64 q3, .string q4, .slice aq5 q5.length kq5] 86) = W7
      have g67 : Gr W6 W7 := by rw [← hW7]; exact gd
      have s67 : W7.heap.size = W6.heap.size + 1 := by rw [← hW7]; simp
      have vX : VRow W7 W6.heap.size 86 [.int .i64 q0, .int .i64 p, .int .i64 l, .int .i64 q3, .string q4, .slice aq5 q5.length kq5] := by rw [← hW7]; exact VRow.new rfl
      have HVX := Lib.hid vX
      have HG67 := Lib.hid g67
      clear hW7 vX hpw hlw g67 y0 zy0 fy0
      go_wp2_with fail
      go_loopw [11, 10] (fun s11 s10 wr => ∃ (j : Nat) (fps : List (List Nat)), j ≤ q5.length ∧ Hid (fps.flatten = []) ∧ Hid (Gr W7 wr) ∧ Hid (OwnR (α := Int) W7 3 wr s10 fps ((q5.take j).map (· + (NS.length : Int)))) ∧ s11 = .int .i64 j) (fun s11 _ _ => q5.length - (intOf s11).toNat)
      case atStart => exact ⟨0, [], by omega, Lib.hid rfl, Lib.hid gd, Lib.hid (by simpa using OwnR.lit0 (α := Int) (w0 := W7) (w := W7) 3 (Nat.le_refl _) (by first | rfl | omega)), rfl⟩
      case round =>
       obtain ⟨j, fps, hj, HFJ, HG8, HO, rfl⟩ := hrel
       rename World => W8
       obtain ⟨L, hL⟩ : ∃ L, L = (q5.take j).map (· + (NS.length : Int)) := ⟨_, rfl⟩
       rw [← hL] at HO
       have hLl : L.length = j := by rw [hL, List.length_map, List.length_take]; omega
       have HL := Lib.hid hL
       have HLL := Lib.hid hLl
       obtain ⟨ra, rc, hform⟩ := HO.out.form
       subst hform
       have v8 := HVX.out.gr HG8.out
       have b5 := v8.cell (k := 5) (by simp)
       have zb5 := blk b5
       clear hL hLl
       by_cases hlj : j < q5.length
       ·obtain ⟨c, hc⟩ : ∃ c, c = q5[j] := ⟨_, rfl⟩
        have hcb := HB4.out c (by rw [hc]; exact List.getElem_mem hlj)
        have c1 := hcb.1
        have c2 := hcb.2
        have iw3 : IntKind.i64.wrap (c + (NS.length : Int)) = c + (NS.length : Int) := IntWalk.i64_in _ (by omega)
        have HWC := Lib.hid (show (Lit.int .i64 (c + (NS.length : Int))).wf = true from wf_of (by omega) (by omega))
        obtain ⟨b8, o8, rfl, hb8⟩ := oq53 j hlj
        have cc := (HG6.out.trans (HG67.out.trans HG8.out)).keep (HQ5.out.int_at hlj).1
        rw [← hc] at cc
        have zcc := blk cc
        have HC := Lib.hid hc
        have j0 : (0 : Int) ≤ (j : Int) := by omega
        have j1 : (j : Int) < (q5.length : Int) := by omega
        clear hc hcb v8
        go_wp2_with (first | (at_builtin; refine wpList_append_R (α := Int) (w0 := W7) (HG8.out.trans gd) rfl _ _ 59 rfl 3 i0 (.int .i64 0) 8 Try.underlying59 HZ.out.1 HZ.out.2.1 HZ.out.2.2.1 HZ.out.2.2.2 rfl _ fps _ (by rfl) (HO.out.gr gd) _ [[]] [c + (NS.length : Int)] (by rfl) (SrcR.one (by simp) (intRd HWC.out _)) (fun b _ => by simp) (by rw [HLL.out]; unfold maxLen; simp; omega) (by rw [HLL.out]; simp; omega) ?_; intro v3 w3 h1 h2 h3 h4; replace h1 := Lib.hid h1; replace h4 := Lib.hid h4; clear h2 h3))
        refine ⟨⟨j + 1, fps ++ [[]], by omega, Lib.hid (by rw [List.flatten_append, HFJ.out]; rfl), h4, Lib.hid ?_, by go_num⟩, by simp [intOf]; omega⟩
        rw [List.take_succ_eq_append_getElem hlj, List.map_append, ← HL.out, ← HC.out]
        exact h1.out
       ·have hj2 : j = q5.length := by omega
        subst hj2
        have f5 := v8.frozen 5
        have hL2 : L = q5.map (· + (NS.length : Int)) := by rw [HL.out, List.take_length]
        have HL2 := Lib.hid hL2
        have hX2 : Wr [W6.heap.size] W8 (W8.setCell ⟨W6.heap.size, 5, none⟩ (.slice ra L.length rc)) := (Wr.refl _ _).setCell (by simp) _
        have HX2 := Lib.hid hX2
        have HV9 := Lib.hid (v8.set 5 (.slice ra L.length rc))
        have HO9 := Lib.hid (HO.out.wr hX2 (by rw [HFJ.out]; simp) (fun b hb hm => by have := (HO.out.base b hb).1; simp at hm; omega))
        clear hL2 hX2 v8
        go_upto_region 24 with fail
        generalize hW9 : W8.setCell ⟨W6.heap.size, 5, none⟩ (.slice ra L.length rc) = W9 at HX2 HV9 HO9
        clear hW9
        have hG69 : Gr W6 W9 := Gr.wr (HG67.out.trans HG8.out) HX2.out (fun b hb => by simp at hb; omega)
        have g9 : Gr w W9 := HG6.out.trans hG69
        have s69 : W6.heap.size < W9.heap.size := by have := hG69.size; have := HG8.out.size; have := HX2.out.size; omega
        have hT9 := HT6.out.gr hG69
        have hO9 : OwnR (α := Int) w 3 W9 (.slice ra L.length rc) fps L := HO9.out.base_eq (by have := HG6.out.size; omega)
        have hcb : ∀ b ∈ (Value.slice ra L.length rc).ownBlock.toList, W7.heap.size ≤ b := fun b hb => (HO9.out.base b (by simpa using hb)).1
        have HCB := Lib.hid hcb
        have hFl : ∀ b ∈ F, b < W6.heap.size := HT6.out.lt
        have HFL := Lib.hid hFl
        obtain ⟨fpt, xst, hOX, hXN, hnd, hge, hFE⟩ := hT9
        have HOX := Lib.hid hOX
        have HXN := Lib.hid hXN
        have HND := Lib.hid (And.intro hnd hge)
        have HFE := Lib.hid hFE
        have HO10 := Lib.hid hO9
        have hxl : xst.length = NU.length := by rw [← hXN, List.length_map]
        have HXL := Lib.hid hxl
        have vr9 := HVR6.out.gr hG69
        have vo9 := HVO6.out.gr hG69
        have HVR9 := Lib.hid vr9
        have HVO9 := Lib.hid vo9
        have c0 := HV9.out.cell (k := 0) (by simp)
        have c1 := HV9.out.cell (k := 1) (by simp)
        have c2 := HV9.out.cell (k := 2) (by simp)
        have c3 := HV9.out.cell (k := 3) (by simp)
        have c4 := HV9.out.cell (k := 4) (by simp)
        have c5 := HV9.out.cell (k := 5) (by simp)
        have zc5 := blk c5
        have y0 := vo9.box
        have zy0 := blk y0
        have HG9 := Lib.hid g9
        have HA := Lib.hid (show ∀ b, (Value.slice au NU.length cu).ownBlock = some b → b ∉ [(Value.slice ra L.length rc).ownBlock.toList].flatten from fun b hb hm => by
         have h1 := HFL.out b (by rw [HFE.out]; exact List.mem_append_left _ (by rw [hb]; simp))
         have h2 := HCB.out b (by simpa using hm)
         omega)
        have hso : w.heap.size + 1 + 1 + 1 + 1 ∉ (Value.slice au NU.length cu).ownBlock.toList := fun hm => (HF6.out _ (by rw [HFE.out]; exact List.mem_append_left _ hm)).2 rfl
        have hsr : w.heap.size + 1 ∉ (Value.slice au NU.length cu).ownBlock.toList := fun hm => (HF6.out _ (by rw [HFE.out]; exact List.mem_append_left _ hm)).1 rfl
        have HSO := Lib.hid hso
        have HSR := Lib.hid hsr
        obtain ⟨NV, hNV⟩ : ∃ NV, NV = NU ++ [(q0, p, l, q3, q4, L)] := ⟨_, rfl⟩
        have HNV := Lib.hid hNV
        have hcn : ∀ b ∈ (Value.slice ra L.length rc).ownBlock.toList, w.heap.size ≤ b ∧ b ∉ fpt.flatten := fun b hb => by
         have h2 := HCB.out b hb
         have h3 := HG6.out.size
         refine ⟨by omega, fun hm => ?_⟩
         have h1 := HFL.out b (by rw [HFE.out]; exact List.mem_append_right _ hm)
         omega
        have HCN := Lib.hid hcn
        clear hNV hcn
        clear hG69 g9 hO9 hcb hFl hOX hXN hnd hge hFE hxl vr9 vo9 hso hsr
        go_wp2_with (first | (at_builtin; refine wpList_append_RB (α := NodeO w.heap.size) (wg := w) (w0 := w) (HG9.out.trans gd) (Nat.le_refl _) (HG9.out.trans gd).size rfl _ _ 36 rfl 86 iN (.agg #[.int .i64 0, .int .i64 0, .int .i64 0, .int .i64 0, .string ByteArray.empty, .slice none 0 0]) 72 Try.underlying36 HZN.out.1 HZN.out.2.1 HZN.out.2.2.1 HZN.out.2.2.2 rfl _ fpt xst (by rfl) (HOX.out.gr gd) _ [(Value.slice ra L.length rc).ownBlock.toList] [(q0, p, l, q3, q4, ORow.mk w.heap.size 3 L)] (by rfl) (SrcR.one rfl (rdNodeO_mk q0 p l q3 q4 HQ.out.1 HW2.out.1 HW2.out.2 HQ.out.2.1 HQ.out.2.2 (Rd.gr HO10.out.toORow gd))) HA.out (by rw [HXL.out]; unfold maxLen; simp; omega) (by rw [HXL.out]; simp; omega) ?_; intro v3 w3 h1 h2 h3 h4; have t10 : OwnT w w3 v3 (v3.ownBlock.toList ++ (fpt.flatten ++ (Value.slice ra L.length rc).ownBlock.toList)) NV := (by rw [HNV.out]; exact OwnT.of_append h1 HXN.out HND.out.1 HND.out.2 HCN.out); obtain ⟨va3, vc3, hf3⟩ := t10.form; subst hf3; replace t10 := Lib.hid t10; have hw3 : Wr (Value.slice au NU.length cu).ownBlock.toList W9 w3 := ((gd : Gr W9 (W9.alloc (.cells #[.int .i64 q0, .int .i64 p, .int .i64 l, .int .i64 q3, .string q4, .slice ra L.length rc] 86))).toWr _).trans h2; have vo3 := HVO9.out.wr hw3 HSO.out; have d0 := vo3.box; have fd0 := vo3.frozen 0; have zd0 := blk d0; replace h1 := Lib.hid h1; replace h3 := Lib.hid h3; replace h4 := Lib.hid h4; replace hw3 := Lib.hid hw3; replace vo3 := Lib.hid vo3; clear h2))
        have h30 := h3.out
        have hw30 := hw3.out.size
        refine ⟨⟨i + 1, .slice va3 NV.length vc3, (Value.slice va3 NV.length vc3).ownBlock.toList ++ (fpt.flatten ++ (Value.slice ra L.length rc).ownBlock.toList), by omega, Lib.hid (h4.out.setCell (p := ⟨w.heap.size + 1 + 1 + 1 + 1, 0, none⟩) (by simp <;> omega) _), by rw [size_setCell']; omega, Lib.hid (((HVR9.out.wr hw3.out HSR.out)).ne (by omega)), Lib.hid (vo3.out.set 0 _), Lib.hid ?_, Lib.hid ?_, by go_num⟩, by simp [intOf]; omega⟩
        ·have hq : AD.take (i + 1) = AD.take i ++ [(q0, p, l, q3, q4, L)] := by
          have h1 := HADI.out
          obtain ⟨hx, h2⟩ := List.getElem?_eq_some_iff.1 h1
          rw [List.take_succ_eq_append_getElem hx, h2, HPL.out.1, HPL.out.2, HL2.out]
         rw [hq, ← List.append_assoc NT, ← HNU.out, ← HNV.out]
         exact t10.out.wr ((Wr.refl [w.heap.size + 1 + 1 + 1 + 1] _).setCell (by simp) _) (fun b hb hm => by
          simp only [List.mem_singleton] at hm
          subst hm
          rcases List.mem_append.1 hb with h | h
          ·rcases h30 with e | e
           ·rw [e] at h; exact HSO.out h
           ·rw [e] at h; simp at h; omega
          ·rcases List.mem_append.1 h with h | h
           ·exact (HF6.out _ (by rw [HFE.out]; exact List.mem_append_right _ h)).2 rfl
           ·have := HCB.out _ h; omega)
        ·intro b hb
         rcases List.mem_append.1 hb with h | h
         ·rcases h30 with e | e
          ·rw [e] at h; exact HF6.out b (by rw [HFE.out]; exact List.mem_append_left _ h)
          ·rw [e] at h; simp at h; omega
         ·rcases List.mem_append.1 h with h | h
          ·exact HF6.out b (by rw [HFE.out]; exact List.mem_append_right _ h)
          ·have := HCB.out _ h; omega
    ·have hi2 : i = T.length := by omega
     subst hi2
     go_wp2_with fail
     refine ⟨⟨k + 1, _, _, by omega, HG6, hs6, HVR6, HVO6, ?_, HF6, by go_num⟩, by simp [intOf]; omega⟩
     rw [HJO.out, ← HNT.out, ← HAD.out]
     have e : NT ++ AD = NU := by rw [HNU.out, ← HADL.out, List.take_length]
     rw [e]
     exact HT6
  ·have hk2 : k = ts.length := by omega
   subst hk2
   have hNF : NS = joN (r0, r1, r2, r3, r4, r5) ts := by rw [HNS.out, List.take_length]
   have HNF := Lib.hid hNF
   have y0 := HVO.out.box
   have x0 := HVR.out.box
   have zy0 := blk y0
   have zx0 := blk x0
   have fx0 := HVR.out.frozen 0
   clear hNF
   go_wp2_with fail
   generalize hF : W3.setCell ⟨w.heap.size + 1, 0, none⟩ (.slice av NS.length cv) = WF
   have vF : VRow WF (w.heap.size + 1) 38 [.slice av NS.length cv] := by rw [← hF]; exact HVR.out.set 0 _
   have tF : OwnT w WF (.slice av NS.length cv) F NS := by
    rw [← hF]
    exact HTO.out.wr ((Wr.refl [w.heap.size + 1] _).setCell (by simp) _) (fun b hb hm => (HF.out b hb).1 (by simpa using hm))
   have gF : Gr w WF := by rw [← hF]; exact HG.out.setCell (p := ⟨w.heap.size + 1, 0, none⟩) (by simp) _
   have r0' := vF.box
   clear hF vF
   exact bodyPost_ret (v := .agg #[.slice av NS.length cv]) (by simp [results, Try.results81, go_sem, r0']) rfl ⟨_, F, rfl, by rw [← HNF.out]; exact tF, gF⟩
end Go.Proofs.Ytmfcagcanhmdbaa
