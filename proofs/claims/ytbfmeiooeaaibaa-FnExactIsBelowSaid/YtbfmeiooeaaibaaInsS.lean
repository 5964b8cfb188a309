/- The instances of a tree: the reference's. No condition. -/
import Derived.Test.YtbfmeiooeaaibaaInsI
import Derived.Deep.DeepCutAuto
namespace Go.Proofs.Ytbfmeiooeaaibaa
open Go.RowKit
variable {d : Nat}
set_option linter.unusedVariables false
set_option linter.unusedSimpArgs false

set_option maxRecDepth 100000 in
set_option maxHeartbeats 16000000 in
theorem specInsts_any {fg : List Nat} {cg : Array Value} (g : (GGrammar d)) {ft : List Nat} {ct : Array Value} (t : GTree) (w : World) (hg : Rd.rd fg w cg.toList g) (ht : Rd.rd ft w ct.toList t) (hl : wtGrammar g ≤ 1048576) (hl2 : t.length ≤ 1048576) :
    Calls Try.prog 17 #[.agg cg, .agg ct] w (MadeS w (instsOf g t)) := by
  obtain ⟨i0, hi, hz0, hz1, hz2⟩ := info_parts Try.infoInstC
  have HZ := Lib.hid (And.intro hi (And.intro hz0 (And.intro hz1 hz2)))
  clear hi hz0 hz1 hz2
  have HWT := Lib.hid hl
  have HL2 := Lib.hid hl2
  clear hl hl2
  have HG := Lib.hid hg
  obtain ⟨g0, g1⟩ := g
  obtain ⟨vg0, fg0, vg1, fg1, rfl, hfpg, hg0, hg1⟩ := rdGrammar_inv g0 g1 hg
  have FPg := Lib.hid hfpg
  clear hfpg
  obtain ⟨ag0, kg0, rfl, og01, og02, og03⟩ := hg0.open
  obtain ⟨ag1, kg1, rfl, og11, og12, og13⟩ := hg1.open
  clear hg
  have HT := Lib.hid ht
  obtain ⟨t0, rfl⟩ : ∃ y, y = t := ⟨t, rfl⟩
  obtain ⟨vt0, ft0, rfl, hfpt, ht0⟩ := rdTree_inv t0 ht
  have FPt := Lib.hid hfpt
  clear hfpt
  obtain ⟨at0, kt0, rfl, ot01, ot02, ot03⟩ := ht0.open
  clear ht
  by_cases htr : isTreeB (g0, g1) t0 = true
  · have HTR := Lib.hid htr
    have hlen : t0.length ≤ 16 := (treeOf_iff.1 htr).1.2
    have HC1 := Lib.hid (fun x : Ext => specSymOf_any (g0, g1) t0 0 ((((w.alloc (.cells #[.slice ag0 g0.length kg0, .slice ag1 g1.length kg1] 36)).alloc (.cells #[.slice at0 t0.length kt0] 40)).alloc (.cells #[] 57)).ext x) (Rd.gr HG.out (by repeat (first | exact Gr.refl _ | apply Gr.ext | apply Gr.alloc | apply Gr.drew))) (Rd.gr HT.out (by repeat (first | exact Gr.refl _ | apply Gr.ext | apply Gr.alloc | apply Gr.drew))) HWT.out)
    have HC2 := Lib.hid (fun x : Ext => (specTreeOf_any (g0, g1) t0 (symAt (g0, g1) t0 0) ((((w.alloc (.cells #[.slice ag0 g0.length kg0, .slice ag1 g1.length kg1] 36)).alloc (.cells #[.slice at0 t0.length kt0] 40)).alloc (.cells #[] 57)).ext x) (Rd.gr HG.out (by repeat (first | exact Gr.refl _ | apply Gr.ext | apply Gr.alloc | apply Gr.drew))) (Rd.gr HT.out (by repeat (first | exact Gr.refl _ | apply Gr.ext | apply Gr.alloc | apply Gr.drew))) HWT.out HL2.out).mono fun e w' h => (show e = .returned (.bool true) ∧ _ from ⟨by rw [h.1, show treeOf (g0, g1) t0 (symAt (g0, g1) t0 0) = true from HTR.out], h.2⟩))
    clear htr
    go_enter Try.func17, Try.ntmps17
    go_wp2_with fail
    refine wp_region_grown (by kernel_rfl) (by kernel_rfl) ?_
    repeat (go_big_quiet_step (first | (go_at_call 31; exact grown_call (HC1.out _)) | (go_at_call 30; exact grown_call (HC2.out _))))
    refine wpQuiet_nil ?_
    intro _ hw'
    obtain ⟨x1, hw''⟩ := hw'
    subst hw''
    go_wp2_with fail
    generalize hB : ((w.alloc (.cells #[.slice ag0 g0.length kg0, .slice ag1 g1.length kg1] 36)).alloc (.cells #[.slice at0 t0.length kt0] 40)) = B
    have gB : Gr w B := by rw [← hB]; exact (by repeat (first | exact Gr.refl _ | apply Gr.ext | apply Gr.alloc | apply Gr.drew))
    have bB0 : ∀ w' : World, Gr B w' → w'.cell? ⟨w.heap.size, 0, none⟩ = some (.slice ag0 g0.length kg0) := fun w' hg => hg.keep (by rw [← hB]; repeat (first | ((with_reducible refine box_cell ?_ ?_) <;> first | omega | (simp; done) | (simp; omega) | rfl) | (with_reducible refine Gr.keep (Gr.alloc (Gr.refl _) _) ?_) | (with_reducible refine Gr.keep (Gr.ext (Gr.refl _) _) ?_) | (with_reducible refine Gr.keep (Gr.drew (Gr.refl _)) ?_)))
    have bB1 : ∀ w' : World, Gr B w' → w'.cell? ⟨w.heap.size, 1, none⟩ = some (.slice ag1 g1.length kg1) := fun w' hg => hg.keep (by rw [← hB]; repeat (first | ((with_reducible refine box_cell ?_ ?_) <;> first | omega | (simp; done) | (simp; omega) | rfl) | (with_reducible refine Gr.keep (Gr.alloc (Gr.refl _) _) ?_) | (with_reducible refine Gr.keep (Gr.ext (Gr.refl _) _) ?_) | (with_reducible refine Gr.keep (Gr.drew (Gr.refl _)) ?_)))
    have bB2 : ∀ w' : World, Gr B w' → w'.cell? ⟨w.heap.size + 1, 0, none⟩ = some (.slice at0 t0.length kt0) := fun w' hg => hg.keep (by rw [← hB]; repeat (first | ((with_reducible refine box_cell ?_ ?_) <;> first | omega | (simp; done) | (simp; omega) | rfl) | (with_reducible refine Gr.keep (Gr.alloc (Gr.refl _) _) ?_) | (with_reducible refine Gr.keep (Gr.ext (Gr.refl _) _) ?_) | (with_reducible refine Gr.keep (Gr.drew (Gr.refl _)) ?_)))
    have sB : B.heap.size = w.heap.size + 2 := by rw [← hB]; first | (simp; done) | (simp; omega)
    have EB := Lib.hid hB
    clear hB
    go_loopw [6, 5] (fun s21 s5 wr => ∃ (k : Nat) (fps : List (List Nat)), k ≤ t0.length ∧ Hid (fps.flatten = []) ∧ Gr B wr ∧ OwnR (α := GInstance) B 57 wr s5 fps ((t0.take k).flatMap (instN (g0, g1))) ∧ s21 = .int .i64 k) (fun s21 _ _ => t0.length - (intOf s21).toNat)
    case atStart => exact ⟨0, [], by omega, Lib.hid rfl, (by repeat (first | exact Gr.refl _ | apply Gr.ext | apply Gr.alloc | apply Gr.drew)), (OwnR.lit0 (α := GInstance) (w0 := B) (w := B) 57 (Nat.le_refl _) (by omega)).gr (by repeat (first | exact Gr.refl _ | apply Gr.ext | apply Gr.alloc | apply Gr.drew)), rfl⟩
    case round =>
      obtain ⟨k, fps, hk, HF, hg, hown, rfl⟩ := hrel
      rename World => W1
      have HGR := Lib.hid hg
      have HO := Lib.hid hown
      obtain ⟨ra, rc, hform⟩ := hown.form
      obtain ⟨L, hL⟩ : ∃ L, L = (t0.take k).flatMap (instN (g0, g1)) := ⟨_, rfl⟩
      have hLl : L.length ≤ 16777216 := by rw [hL]; exact insts_len HWT.out HTR.out k
      rw [← hL] at hform
      have HL := Lib.hid hL
      have y0 := bB0 _ hg
      have y1 := bB1 _ hg
      have y2 := bB2 _ hg
      have zb0 := blk y0
      have zb1 := blk y2
      subst hform
      clear hg hown hL
      by_cases hlt : k < t0.length
      · have hgw : Gr w W1 := gB.trans HGR.out
        have HGW := Lib.hid hgw
        obtain ⟨b, off, rfl, hbb⟩ := ot03 k hlt
        obtain ⟨csq, feq, hcq, hrq, -⟩ := ht0.at hlt
        obtain ⟨yq, hyq⟩ : ∃ y, y = t0[k] := ⟨_, rfl⟩
        rw [← hyq] at hrq
        have HYq := Lib.hid hyq
        have HRq := Lib.hid hrq
        obtain ⟨q0, q1, q2, q3, q4, q5⟩ := yq
        obtain ⟨vq5, fq5, hcsq, -, hq0, hq1, hq2, hq3, hq4, hq5⟩ := rdNode_inv (cs := csq.toArray) q0 q1 q2 q3 q4 q5 (by simpa using hrq)
        obtain rfl : csq = [.int .i64 q0, .int .i64 q1, .int .i64 q2, .int .i64 q3, .string q4, vq5] := by have := congrArg Array.toList hcsq; simpa using this
        obtain ⟨aq5, kq5, rfl, oq51, oq52, oq53⟩ := hq5.open
        have qz0 : w.cell? ⟨b, off + k * 6, none⟩ = some (.int .i64 q0) := by simpa [Rd.n] using hcq 0 _ rfl
        have qz1 : w.cell? ⟨b, off + k * 6 + 1, none⟩ = some (.int .i64 q1) := hcq 1 _ rfl
        have qz2 : w.cell? ⟨b, off + k * 6 + 2, none⟩ = some (.int .i64 q2) := hcq 2 _ rfl
        have qz3 : w.cell? ⟨b, off + k * 6 + 3, none⟩ = some (.int .i64 q3) := hcq 3 _ rfl
        have qz4 : w.cell? ⟨b, off + k * 6 + 4, none⟩ = some (.string q4) := hcq 4 _ rfl
        have qz5 : w.cell? ⟨b, off + k * 6 + 5, none⟩ = some (.slice aq5 q5.length kq5) := hcq 5 _ rfl
        have qzb := blk qz0
        clear hcsq hcq hrq hyq
        have HQ0 := Lib.hid hq0
        have qw0 := qz0
        clear qz1 qz2 qz3 qz4 qz5
        clear hgw hq0 hq1 hq2 hq3 hq4 hq5
        have j0 : (0 : Int) ≤ (k : Int) := by omega
        have j1 : (k : Int) < (t0.length : Int) := by omega
        have hs : symAt (g0, g1) t0 (k : Int) = leftOf (g0, g1) (q0, q1, q2, q3, q4, q5) := by unfold symAt; rw [nth_in hlt, ← HYq.out]
        have HS := Lib.hid hs
        obtain ⟨Y, hY⟩ : ∃ Y, Y = (lookS g0 (leftOf (g0, g1) (q0, q1, q2, q3, q4, q5))).getD zeroS := ⟨_, rfl⟩
        have HYY := Lib.hid hY
        clear hs hY
        go_wp2_with fail
        obtain ⟨W5, hW5⟩ : ∃ W5, W5 = W1 := ⟨_, rfl⟩
        have g5 : Gr W1 W5 := by rw [hW5]; exact Gr.refl _
        have s15 : W5.heap.size = W1.heap.size := by rw [hW5]
        rw [← hW5]
        have k0 := fun (w' : World) (h : Gr W5 w') => h.keep (g5.keep y0)
        have k1 := fun (w' : World) (h : Gr W5 w') => h.keep (g5.keep y1)
        have k2 := fun (w' : World) (h : Gr W5 w') => h.keep (g5.keep y2)
        have HG5 := Lib.hid g5
        have HGW5 := Lib.hid (HGW.out.trans g5)
        clear hW5 g5
        go_cut [7] (fun s8 wr => SymBox w W5 Y s8 wr)
        case first =>
          go_region_held3 (fun w' => Gr W5 w') (first | assumption | exact Gr.drew (Gr.refl _) | (repeat (first | assumption | exact Gr.refl _ | apply Gr.ext | apply Gr.alloc | apply Gr.drew)))
            (first | (go_at_call 31; refine (specSymOf_any (g0, g1) t0 (k : Int) _ (Rd.gr HG.out (HGW5.out.trans (by first | assumption | exact (by repeat (first | exact Gr.refl _ | apply Gr.ext | apply Gr.alloc | apply Gr.drew))))) (Rd.gr HT.out (HGW5.out.trans (by first | assumption | exact (by repeat (first | exact Gr.refl _ | apply Gr.ext | apply Gr.alloc | apply Gr.drew))))) HWT.out).mono ?_; rintro e w' ⟨rfl, x2, rfl⟩; rw [HS.out]) | (go_at_call 32; refine (specFindSymbol_any (g0, g1) (leftOf (g0, g1) (q0, q1, q2, q3, q4, q5)) _ (Rd.gr HG.out (HGW5.out.trans (by first | assumption | exact (by repeat (first | exact Gr.refl _ | apply Gr.ext | apply Gr.alloc | apply Gr.drew))))) HWT.out).mono ?_; rintro e w' ⟨es, fq, rfl, hr, hsb, x3, rfl⟩; obtain ⟨yr, hyr⟩ : ∃ y, y = (lookS g0 (leftOf (g0, g1) (q0, q1, q2, q3, q4, q5))).getD zeroS := ⟨_, rfl⟩; have hr1r := hr; change Rd.rd fq _ es.toList ((lookS g0 (leftOf (g0, g1) (q0, q1, q2, q3, q4, q5))).getD zeroS) at hr1r; rw [← hyr] at hr1r; have HYr := Lib.hid hyr; have HRr := Lib.hid hr1r; obtain ⟨r0, r1⟩ := yr; obtain ⟨vr1, fr1, rfl, hfqr, hr0, hr1⟩ := rdSymbol_inv r0 r1 hr1r; have FQr := Lib.hid hfqr; clear hfqr; obtain ⟨ar1, kr1, rfl, or11, or12, or13⟩ := hr1.open; clear hr hr1r hyr; obtain ⟨bb, hbb⟩ : ∃ b : Bool, b = (lookS g0 (leftOf (g0, g1) (q0, q1, q2, q3, q4, q5))).isSome := ⟨_, rfl⟩; rw [← hbb]; have Hbb := Lib.hid hbb; clear hbb; have HSB := Lib.hid hsb; clear hsb))
          all_goals
            go_wp2_with fail
            go_meet
            have hY : Y = (r0, r1) := HYY.out.trans HYr.out.symm
            subst hY
            have hnb : ∀ c ∈ fr1, c < w.heap.size ∨ _ ≤ c := fun c hc => (HSB.out c (by rw [FQr.out]; simpa using hc)).imp (Rd.lt HG.out c) id
            have hw5 := HGW5.out.size
            refine ⟨_, .slice ar1 r1.length kr1, fr1, rfl, (by repeat (first | exact Gr.refl _ | apply Gr.ext | apply Gr.alloc | apply Gr.drew)), ?_, ?_, ?_, hr0, by first | omega | (simp; done) | (simp; omega), fun c hc => (hnb c hc).imp id (fun h => by simp at h; omega)⟩
            · repeat (first | ((with_reducible refine box_cell ?_ ?_) <;> first | omega | (simp; done) | (simp; omega) | rfl) | (with_reducible refine Gr.keep (Gr.alloc (Gr.refl _) _) ?_) | (with_reducible refine Gr.keep (Gr.ext (Gr.refl _) _) ?_) | (with_reducible refine Gr.keep (Gr.drew (Gr.refl _)) ?_))
            · repeat (first | ((with_reducible refine box_cell ?_ ?_) <;> first | omega | (simp; done) | (simp; omega) | rfl) | (with_reducible refine Gr.keep (Gr.alloc (Gr.refl _) _) ?_) | (with_reducible refine Gr.keep (Gr.ext (Gr.refl _) _) ?_) | (with_reducible refine Gr.keep (Gr.drew (Gr.refl _)) ?_))
            · first
                | (refine hr1.gr ?_; (repeat (first | exact Gr.refl _ | apply Gr.ext | apply Gr.alloc | apply Gr.drew)); done)
                | ((with_reducible refine hr1.mono (sameOn_box ?_)); exact fun c hc e => by subst e; have := hnb _ hc; simp at this; omega)
                | ((with_reducible refine hr1.mono (sameOn_box2 ?_)); exact fun c hc e => by subst e; have := hnb _ hc; simp at this; omega)
        case rest =>
          obtain ⟨b8, v8, fr, rfl, g56, d0, d1, sl, -, hb8W, hfr⟩ := hcut
          rename World => W6
          obtain ⟨ay, ky, rfl, oy1, oy2, oy3⟩ := sl.open
          have z0 := blk d0
          have HSL := Lib.hid sl
          have HG56 := Lib.hid g56
          have hyl : Y.2.length ≤ 1048576 := by have := HWT.out; rw [HYY.out]; exact getD_len (Nat.le_trans (Nat.le_add_right _ _) this) _
          have hob : ∀ b, (Value.slice ra L.length rc).ownBlock = some b → B.heap.size ≤ b ∧ b < W1.heap.size := HO.out.base
          have HOB := Lib.hid hob
          have s56 := g56.size
          have hdis : ∀ c ∈ fr, c ∉ (Value.slice ra L.length rc).ownBlock.toList := fun c hc hm => by
            have h1 := HOB.out c (by simpa using hm)
            have := gB.size
            rcases hfr c hc with h | h <;> omega
          have HDIS := Lib.hid hdis
          have hb8 : b8 ∉ (Value.slice ra L.length rc).ownBlock.toList := fun hm => by have := HOB.out b8 (by simpa using hm); omega
          have HNB := Lib.hid hb8
          obtain ⟨O0, hO0⟩ : ∃ o, o = (Value.slice ra L.length rc).ownBlock := ⟨_, rfl⟩
          rw [← hO0] at HDIS HNB
          have HOO := Lib.hid hO0
          clear k0 k1 k2 sl g56 hob hdis hb8 hfr hO0
          go_wp2_with fail
          go_loopw [9, 5] (fun s38 s5 wr => ∃ (j : Nat) (fps : List (List Nat)), j ≤ Y.2.length ∧ Hid (fps.flatten = []) ∧ Gr B wr ∧ Wr O0.toList W6 wr ∧ Hid (s5.ownBlock = O0 ∨ ∃ n, s5.ownBlock = some n ∧ W6.heap.size ≤ n) ∧ OwnR (α := GInstance) B 57 wr s5 fps (L ++ (Y.2.take j).map (fun a => (q0, a.1))) ∧ s38 = .int .i64 j) (fun s38 _ _ => Y.2.length - (intOf s38).toNat)
          case atStart => exact ⟨0, fps, by omega, HF, HGR.out.trans (HG5.out.trans HG56.out), Wr.refl _ _, Lib.hid (.inl HOO.out.symm), by simpa [HL.out] using HO.out.gr (HG5.out.trans HG56.out), rfl⟩
          case round =>
            obtain ⟨j, fps, hj, HF, hg, hwr, HV, hown, rfl⟩ := hrel
            rename World => W7
            have HGR := Lib.hid hg
            have HWR := Lib.hid hwr
            have HO := Lib.hid hown
            obtain ⟨ra, rc, hform⟩ := hown.form
            obtain ⟨M, hM⟩ : ∃ M, M = L ++ (Y.2.take j).map (fun a => (q0, a.1)) := ⟨_, rfl⟩
            have hMl : M.length ≤ 17825792 := by rw [hM, List.length_append, List.length_map, List.length_take]; omega
            rw [← hM] at hform
            have HM := Lib.hid hM
            have y0 := bB0 _ hg
            have y1 := bB1 _ hg
            have y2 := bB2 _ hg
            have zb0 := blk y0
            have zb1 := blk y2
            have e5 := hwr.keepC d1 HNB.out
            have ze5 := blk e5
            have hsy := HSL.out.wr hwr HDIS.out
            have HSY := Lib.hid hsy
            clear hg hwr hown hM hsy
            subst hform
            by_cases hlj : j < Y.2.length
            · have hlt := hlj
              have hsy := HSY.out
              obtain ⟨bp, offp, rfl, hbbp⟩ := oy3 j hlt
              obtain ⟨csp, fep, hcp, hrp, -⟩ := hsy.at hlt
              obtain ⟨yp, hyp⟩ : ∃ y, y = Y.2[j] := ⟨_, rfl⟩
              rw [← hyp] at hrp
              have HYp := Lib.hid hyp
              have HRp := Lib.hid hrp
              obtain ⟨p0, p1, p2, p3⟩ := yp
              obtain ⟨hcsp, -, hp0, hp1, hp2⟩ := rdAttribute_inv (cs := csp.toArray) p0 p1 p2 p3 (by simpa using hrp)
              obtain rfl : csp = [.string p0, .int .i64 p1, .int .i64 p2, .bool p3] := by have := congrArg Array.toList hcsp; simpa using this
              have pz0 : W7.cell? ⟨bp, offp + j * 4, none⟩ = some (.string p0) := by simpa [Rd.n] using hcp 0 _ rfl
              have pz1 : W7.cell? ⟨bp, offp + j * 4 + 1, none⟩ = some (.int .i64 p1) := hcp 1 _ rfl
              have pz2 : W7.cell? ⟨bp, offp + j * 4 + 2, none⟩ = some (.int .i64 p2) := hcp 2 _ rfl
              have pz3 : W7.cell? ⟨bp, offp + j * 4 + 3, none⟩ = some (.bool p3) := hcp 3 _ rfl
              have pzb := blk pz0
              clear hcsp hcp hrp hyp
              have HQP := Lib.hid (And.intro HQ0.out hp0)
              clear hsy hp0 hp1 hp2
              have i0' : (0 : Int) ≤ (j : Int) := by omega
              have i1' : (j : Int) < (Y.2.length : Int) := by omega
              go_wp2_with fail
              have hnw : ∀ c, c < W6.heap.size → c ∉ O0.toList → c ∉ (Value.slice ra M.length rc).ownBlock.toList := fun c hc hn hm => by
                rcases HV.out with e | ⟨n, e, hn2⟩
                · rw [e] at hm; exact hn hm
                · rw [e] at hm; simp at hm; omega
              have hb8n := hnw b8 z0 HNB.out
              have hbpn := hnw bp (HSL.out.lt bp (HSL.out.blk_mem (by intro e; rw [e] at hlj; simp at hlj))) (HDIS.out bp (HSL.out.blk_mem (by intro e; rw [e] at hlj; simp at hlj)))
              have kf5 := fun (w' : World) (h : Wr (Value.slice ra M.length rc).ownBlock.toList W7 w') => h.keepC e5 hb8n
              have kfp := fun (w' : World) (h : Wr (Value.slice ra M.length rc).ownBlock.toList W7 w') => h.keepC pz0 hbpn
              have kq0 := fun (w' : World) (h : Gr B w') => (gB.trans h).keep qw0
              clear hnw hb8n hbpn
              refine wp_region_U (fun w' => Wr (Value.slice ra M.length rc).ownBlock.toList W7 w' ∧ Gr B w') 16 (by kernel_rfl) (⟨(Gr.drew (Gr.refl W7)).toWr _, HGR.out.drew⟩) (fun hU => ?_)
              refine anyU_take (i := 0) (v := ?_) rfl (by kernel_rfl) (by kernel_rfl) (by kernel_rfl) (by kernel_rfl) (fun _ _ _ h => h) (Or.inl ⟨by rfl, ?_⟩) (by assumption) ?_
              rotate_left 1
              · intro w hSw; (try dsimp only at hSw); go_simp; all_goals with_reducible rfl
              try simp only [Act.put, List.setIfInBounds_toArray, List.set_cons_zero, List.set_cons_succ]
              refine anyU_take (i := 1) (v := ?_) rfl (by kernel_rfl) (by kernel_rfl) (by kernel_rfl) (by kernel_rfl) (fun _ _ _ h => h) (Or.inl ⟨by rfl, ?_⟩) (by assumption) ?_
              rotate_left 1
              · intro w hSw; (try dsimp only at hSw); go_simp; all_goals with_reducible rfl
              try simp only [Act.put, List.setIfInBounds_toArray, List.set_cons_zero, List.set_cons_succ]
              refine anyU_take (i := 3) (v := ?_) rfl (by kernel_rfl) (by kernel_rfl) (by kernel_rfl) (by kernel_rfl) (fun _ _ _ h => h) (Or.inl ⟨by rfl, ?_⟩) (by assumption) ?_
              rotate_left 1
              · intro w hSw; (try dsimp only at hSw); go_simp; all_goals with_reducible rfl
              try simp only [Act.put, List.setIfInBounds_toArray, List.set_cons_zero, List.set_cons_succ]
              refine anyU_take (i := 7) (v := ?_) rfl (by kernel_rfl) (by kernel_rfl) (by kernel_rfl) (by kernel_rfl) (fun _ _ _ h => h) (Or.inl ⟨by rfl, ?_⟩) (by assumption) ?_
              rotate_left 1
              · intro w hSw; (try dsimp only at hSw); go_simp; all_goals with_reducible rfl
              try simp only [Act.put, List.setIfInBounds_toArray, List.set_cons_zero, List.set_cons_succ]
              refine anyU_take (i := 9) (v := ?_) rfl (by kernel_rfl) (by kernel_rfl) (by kernel_rfl) (by kernel_rfl) (fun _ _ _ h => h) (Or.inl ⟨by rfl, ?_⟩) (by assumption) ?_
              rotate_left 1
              · intro w hSw; (try dsimp only at hSw); go_simp; all_goals with_reducible rfl
              try simp only [Act.put, List.setIfInBounds_toArray, List.set_cons_zero, List.set_cons_succ]
              refine anyU_take (i := 2) (v := ?_) rfl (by kernel_rfl) (by kernel_rfl) (by kernel_rfl) (by kernel_rfl) (fun _ _ _ h => h) (Or.inl ⟨by rfl, ?_⟩) (by assumption) ?_
              rotate_left 1
              · intro w hSw; (try dsimp only at hSw); go_simp; all_goals with_reducible rfl
              try simp only [Act.put, List.setIfInBounds_toArray, List.set_cons_zero, List.set_cons_succ]
              refine anyU_take (i := 8) (v := ?_) rfl (by kernel_rfl) (by kernel_rfl) (by kernel_rfl) (by kernel_rfl) (fun _ _ _ h => h) (Or.inl ⟨by rfl, ?_⟩) (by assumption) ?_
              rotate_left 1
              · intro w hSw; (try dsimp only at hSw); go_simp; all_goals with_reducible rfl
              try simp only [Act.put, List.setIfInBounds_toArray, List.set_cons_zero, List.set_cons_succ]
              refine anyU_take (i := 4) (v := ?_) rfl (by kernel_rfl) (by kernel_rfl) (by kernel_rfl) (by kernel_rfl) (fun _ _ _ h => h) (Or.inl ⟨by rfl, ?_⟩) (by assumption) ?_
              rotate_left 1
              · intro w hSw; (try dsimp only at hSw); go_simp; all_goals with_reducible rfl
              try simp only [Act.put, List.setIfInBounds_toArray, List.set_cons_zero, List.set_cons_succ]
              refine anyU_take (i := 10) (v := ?_) rfl (by kernel_rfl) (by kernel_rfl) (by kernel_rfl) (by kernel_rfl) (fun _ _ _ h => h) (Or.inl ⟨by rfl, ?_⟩) (by assumption) ?_
              rotate_left 1
              · intro w hSw; (try dsimp only at hSw); go_simp; all_goals with_reducible rfl
              try simp only [Act.put, List.setIfInBounds_toArray, List.set_cons_zero, List.set_cons_succ]
              refine anyU_take (i := 5) (v := ?_) rfl (by kernel_rfl) (by kernel_rfl) (by kernel_rfl) (by kernel_rfl) (fun _ _ _ h => h) (Or.inl ⟨by rfl, ?_⟩) (by assumption) ?_
              rotate_left 1
              · intro w hSw; (try dsimp only at hSw); go_simp; all_goals with_reducible rfl
              try simp only [Act.put, List.setIfInBounds_toArray, List.set_cons_zero, List.set_cons_succ]
              refine anyU_take (i := 11) (v := ?_) rfl (by kernel_rfl) (by kernel_rfl) (by kernel_rfl) (by kernel_rfl) (fun _ _ _ h => h) (Or.inl ⟨by rfl, ?_⟩) (by assumption) ?_
              rotate_left 1
              · intro w hSw; (try dsimp only at hSw); go_simp; all_goals with_reducible rfl
              try simp only [Act.put, List.setIfInBounds_toArray, List.set_cons_zero, List.set_cons_succ]
              refine anyU_take (i := 6) (v := ?_) rfl (by kernel_rfl) (by kernel_rfl) (by kernel_rfl) (by kernel_rfl) (fun _ _ _ h => h) (Or.inl ⟨by rfl, ?_⟩) (by assumption) ?_
              rotate_left 1
              · intro w hSw; (try dsimp only at hSw); go_simp; all_goals with_reducible rfl
              try simp only [Act.put, List.setIfInBounds_toArray, List.set_cons_zero, List.set_cons_succ]
              refine anyU_take (i := 12) (v := ?_) rfl (by kernel_rfl) (by kernel_rfl) (by kernel_rfl) (by kernel_rfl) (fun _ _ _ h => h) (Or.inl ⟨by rfl, ?_⟩) (by assumption) ?_
              rotate_left 1
              · intro w hSw; (try dsimp only at hSw); go_simp; all_goals with_reducible rfl
              try simp only [Act.put, List.setIfInBounds_toArray, List.set_cons_zero, List.set_cons_succ]
              refine anyU_take (i := 13) (v := ?_) rfl (by kernel_rfl) (by kernel_rfl) (by kernel_rfl) (by kernel_rfl) (fun _ _ _ h => h) (Or.inl ⟨by rfl, ?_⟩) (by assumption) ?_
              rotate_left 1
              · intro w hSw; (try dsimp only at hSw); go_simp; all_goals with_reducible rfl
              try simp only [Act.put, List.setIfInBounds_toArray, List.set_cons_zero, List.set_cons_succ]
              refine anyU_ready (rs := [14]) (by kernel_rfl) (by simp) ?_
              refine (ReadyU.cons rfl (fun K hK => ?_) ReadyU.nil)
              go_simp
              refine hK.out _ _ ⟨((by repeat (first | exact Gr.refl _ | apply Gr.ext | apply Gr.alloc | apply Gr.drew)) : Gr W7 ((W7.alloc (.cells #[.int .i64 q0, .string p0] 57)).drew)).toWr _, HGR.out.trans (by repeat (first | exact Gr.refl _ | apply Gr.ext | apply Gr.alloc | apply Gr.drew))⟩ (fun hU2 => ?_)
              clear hK K
              try simp only [Act.put, List.setIfInBounds_toArray, List.set_cons_zero, List.set_cons_succ]
              refine anyU_ready (rs := [15]) (by kernel_rfl) (by simp) ?_
              refine (ReadyU.cons rfl (fun K hK => ?_) ReadyU.nil)
              refine step_append_RB (α := GInstance) (wg := B) (w0 := B) (HGR.out.trans (by repeat (first | exact Gr.refl _ | apply Gr.ext | apply Gr.alloc | apply Gr.drew))) (Nat.le_refl _) (HGR.out.trans (by repeat (first | exact Gr.refl _ | apply Gr.ext | apply Gr.alloc | apply Gr.drew))).size (by rfl) _ _ _ (by rfl) 57 i0 (.agg #[.int .i64 0, .string ByteArray.empty]) 24 Try.underlying50 HZ.out.1 HZ.out.2.1 HZ.out.2.2.1 HZ.out.2.2.2 rfl (.slice ra M.length rc) fps _ (by rfl) (HO.out.gr (by repeat (first | exact Gr.refl _ | apply Gr.ext | apply Gr.alloc | apply Gr.drew))) _ [[]] [(q0, p0)] (by rfl) ((SrcR.one (w := W7) (g := W7.heap.size) rfl (rdInstance_mk q0 p0 HQP.out.1 HQP.out.2)).gr (by repeat (first | exact Gr.refl _ | apply Gr.ext | apply Gr.alloc | apply Gr.drew))) (fun b _ => by simp) (by rw [← HM.out]; unfold maxLen; simp; omega) (by rw [← HM.out]; simp; omega) ?_
              intro v9 w9 k1 k2 k3 k4
              replace k1 := Lib.hid k1
              have hw9 : Wr (Value.slice ra M.length rc).ownBlock.toList W7 w9 := (((by repeat (first | exact Gr.refl _ | apply Gr.ext | apply Gr.alloc | apply Gr.drew)) : Gr W7 ((W7.alloc (.cells #[.int .i64 q0, .string p0] 57)).drew)).toWr _).trans k2
              replace k2 := Lib.hid k2
              replace k3 := Lib.hid k3
              replace k4 := Lib.hid k4
              refine hK.out _ _ ⟨hw9, k4.out⟩ (fun hU3 => ?_)
              clear hK K
              try simp only [Act.put, List.setIfInBounds_toArray, List.set_cons_zero, List.set_cons_succ]
              refine anyU_ready (rs := [16]) (by kernel_rfl) (by simp) ?_
              refine ReadyU.last rfl (fun K hK => ?_)
              go_simp
              refine hK.out _ _ ?_
              clear hK K
              try simp only [Act.put, List.setIfInBounds_toArray, List.set_cons_zero, List.set_cons_succ]
              refine anyU_done (by kernel_rfl) ?_ _
              go_wp2_with fail
              have hk2 : Wr (Value.slice ra M.length rc).ownBlock.toList _ w9 := k2.out
              have hk3 : v9.ownBlock = (Value.slice ra M.length rc).ownBlock ∨ _ := k3.out
              have HK2 := Lib.hid hk2
              have HK3 := Lib.hid hk3
              clear hk2 hk3
              refine ⟨⟨j + 1, fps ++ [[]], by omega, Lib.hid (by rw [List.flatten_append, HF.out]; rfl), k4.out, HWR.out.more HV.out ((((by repeat (first | exact Gr.refl _ | apply Gr.ext | apply Gr.alloc | apply Gr.drew)) : Gr W7 _).toWr _).trans HK2.out), Lib.hid (own_moves HV.out HK3.out (Nat.le_trans HWR.out.size (by simp <;> omega))), ?_, by go_num⟩, by simp [intOf]; omega⟩
              have e : L ++ (Y.2.take (j + 1)).map (fun a => (q0, a.1)) = M ++ [(q0, p0)] := by
                rw [List.take_succ_eq_append_getElem hlj, List.map_append, ← List.append_assoc, ← HM.out, ← HYp.out]; rfl
              have h1 := k1.out
              rw [← HM.out] at h1
              rw [e]
              exact h1
            · have hj2 : j = Y.2.length := by omega
              subst hj2
              go_wp2_with fail
              refine ⟨⟨k + 1, fps, by omega, HF, HGR.out.trans (by repeat (first | exact Gr.refl _ | apply Gr.ext | apply Gr.alloc | apply Gr.drew)), ?_, by go_num⟩, by simp [intOf]; omega⟩
              have e : (t0.take (k + 1)).flatMap (instN (g0, g1)) = M := by
                rw [List.take_succ_eq_append_getElem hlt, List.flatMap_append, ← HL.out, HM.out, List.take_length, ← HYq.out, List.flatMap_cons, List.flatMap_nil, List.append_nil]
                unfold instN
                rw [← HYY.out]
              have h1 := HO.out
              rw [← HM.out] at h1
              rw [e]
              exact h1.gr (by repeat (first | exact Gr.refl _ | apply Gr.ext | apply Gr.alloc | apply Gr.drew))
      · have hk2 : k = t0.length := by omega
        subst hk2
        have hI : instsOf (g0, g1) t0 = L := by unfold instsOf; rw [if_pos HTR.out, HL.out, List.take_length]
        have HI := Lib.hid hI
        have hfr := HO.out.fresh (by rw [← HL.out]; unfold reachLen; omega) (by rw [HF.out]; exact Fresh.nil _)
        rw [← HL.out] at hfr
        obtain ⟨fq, hs, hf⟩ := hfr
        have HS := Lib.hid hs
        have HFQ := Lib.hid (hf.of_le gB.size)
        clear hI hs hf
        go_wp2_with fail
        go_ret
        exact ⟨_, fq, rfl, by rw [HI.out]; exact HS.out.gr (by repeat (first | exact Gr.refl _ | apply Gr.ext | apply Gr.alloc | apply Gr.drew)), HFQ.out, gB.trans (HGR.out.trans (by repeat (first | exact Gr.refl _ | apply Gr.ext | apply Gr.alloc | apply Gr.drew)))⟩
  · have hI : instsOf (g0, g1) t0 = [] := by unfold instsOf; rw [if_neg htr]
    have HI := Lib.hid hI
    have hb : isTreeB (g0, g1) t0 = false := eq_false_of_ne_true htr
    have HB := Lib.hid hb
    have HC1 := Lib.hid (fun x : Ext => specSymOf_any (g0, g1) t0 0 ((((w.alloc (.cells #[.slice ag0 g0.length kg0, .slice ag1 g1.length kg1] 36)).alloc (.cells #[.slice at0 t0.length kt0] 40)).alloc (.cells #[] 57)).ext x) (Rd.gr HG.out (by repeat (first | exact Gr.refl _ | apply Gr.ext | apply Gr.alloc | apply Gr.drew))) (Rd.gr HT.out (by repeat (first | exact Gr.refl _ | apply Gr.ext | apply Gr.alloc | apply Gr.drew))) HWT.out)
    have HC2 := Lib.hid (fun x : Ext => (specTreeOf_any (g0, g1) t0 (symAt (g0, g1) t0 0) ((((w.alloc (.cells #[.slice ag0 g0.length kg0, .slice ag1 g1.length kg1] 36)).alloc (.cells #[.slice at0 t0.length kt0] 40)).alloc (.cells #[] 57)).ext x) (Rd.gr HG.out (by repeat (first | exact Gr.refl _ | apply Gr.ext | apply Gr.alloc | apply Gr.drew))) (Rd.gr HT.out (by repeat (first | exact Gr.refl _ | apply Gr.ext | apply Gr.alloc | apply Gr.drew))) HWT.out HL2.out).mono fun e w' h => (show e = .returned (.bool false) ∧ _ from ⟨by rw [h.1, show treeOf (g0, g1) t0 (symAt (g0, g1) t0 0) = false from HB.out], h.2⟩))
    clear hI htr hb
    go_enter Try.func17, Try.ntmps17
    go_wp2_with fail
    refine wp_region_grown (by kernel_rfl) (by kernel_rfl) ?_
    repeat (go_big_quiet_step (first | (go_at_call 31; exact grown_call (HC1.out _)) | (go_at_call 30; exact grown_call (HC2.out _))))
    refine wpQuiet_nil ?_
    intro _ hw'
    obtain ⟨x1, hw''⟩ := hw'
    subst hw''
    go_wp2_with fail
    go_ret
    exact ⟨_, [], rfl, by rw [HI.out]; exact ⟨_, 0, rfl, by simp, by simp, .inl ⟨rfl, rfl⟩⟩, Fresh.nil _, (by repeat (first | exact Gr.refl _ | apply Gr.ext | apply Gr.alloc | apply Gr.drew))⟩
end Go.Proofs.Ytbfmeiooeaaibaa
