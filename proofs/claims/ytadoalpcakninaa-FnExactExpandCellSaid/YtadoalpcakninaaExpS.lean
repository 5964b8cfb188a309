/- The tree of a cell: the reference's. No condition. -/
import Derived.Test.YtadoalpcakninaaJoinS
import Derived.Test.YtadoalpcakninaaCntS
namespace Go.Proofs.Ytadoalpcakninaa
open Go.RowKit
set_option linter.unusedVariables false
set_option linter.unusedSimpArgs false

theorem Try.infoTreeC : (Try.prog.info? 28).map (fun i => (i.zero, i.size, i.bytes)) = some (some (.agg #[.slice none 0 0]), 1, 24) := by kernel_rfl

set_option maxRecDepth 100000 in
set_option maxHeartbeats 8000000 in
theorem l39Expand_any (s : GStore) (hv : ValidStore s) (hl : wtStore s ≤ 1048576) : ∀ (f a : Nat) (fs : List Nat) (cs : Array Value) (w : World) (hs : Rd.rd fs w cs.toList s) (ha : a < s.length) (hf : a < f) (h16 : exL s f a ≤ 16),
    Calls Try.prog 34 #[.agg cs, .int .i64 (a : Int)] w (MadeT w (exN s f a 0 (-1) 0)) := by
  intro f
  induction f with
  | zero => intro a fs cs w hs ha hf; omega
  | succ f ih =>
    intro a fs cs w hs hlt hf h16
    obtain ⟨i0, hi, hz0, hz1, hz2⟩ := info_parts Try.infoTreeC
    have HZ := Lib.hid (And.intro hi (And.intro hz0 (And.intro hz1 hz2)))
    clear hi hz0 hz1 hz2
    have HV := Lib.hid hv
    have HIH := Lib.hid ih
    have HWT := Lib.hid hl
    have hex := exL_at s f hlt
    have HCS := Lib.hid (cells_small hl)
    have hkid : ∀ k (hk : k < s[a].2.2.length), ∃ m : Nat, s[a].2.2[k] = m ∧ m < a := fun k hk => valid_kid hv hlt hk
    have hjn := exN_join s f s[a] (List.getElem?_eq_getElem hlt) 0 0 0 []
    clear hv ih hl
    have HS := Lib.hid hs
    obtain ⟨s0, rfl⟩ : ∃ y, y = s := ⟨s, rfl⟩
    obtain ⟨vs0, fs0, rfl, hfps, hs0⟩ := rdStore_inv s0 hs
    have FPs := Lib.hid hfps
    clear hfps
    obtain ⟨as0, ks0, rfl, os01, os02, os03⟩ := hs0.open
    clear hs
    obtain ⟨b, off, rfl, hbb⟩ := os03 a hlt
    obtain ⟨csq, feq, hcq, hrq, -⟩ := hs0.at hlt
    obtain ⟨yq, hyq⟩ : ∃ y, y = s0[a] := ⟨_, rfl⟩
    rw [← hyq] at hrq
    have HYq := Lib.hid hyq
    have HRq := Lib.hid hrq
    obtain ⟨q0, q1, q2⟩ := yq
    obtain ⟨vq2, fq2, hcsq, -, hq0, hq1, hq2⟩ := rdCell_inv (cs := csq.toArray) q0 q1 q2 (by simpa using hrq)
    obtain rfl : csq = [.string q0, .int .i64 q1, vq2] := by have := congrArg Array.toList hcsq; simpa using this
    obtain ⟨aq2, kq2, rfl, oq21, oq22, oq23⟩ := hq2.open
    have qz0 : w.cell? ⟨b, off + a * 3, none⟩ = some (.string q0) := by simpa [Rd.n] using hcq 0 _ rfl
    have qz1 : w.cell? ⟨b, off + a * 3 + 1, none⟩ = some (.int .i64 q1) := hcq 1 _ rfl
    have qz2 : w.cell? ⟨b, off + a * 3 + 2, none⟩ = some (.slice aq2 q2.length kq2) := hcq 2 _ rfl
    have qzb := blk qz0
    clear hcsq hcq hrq hyq
    rw [← HYq.out] at hex hjn
    have hkid2 : ∀ k (hk : k < q2.length), ∃ m : Nat, q2[k] = m ∧ m < a := by
      have e : q2 = s0[a].2.2 := congrArg (fun x : GCell => x.2.2) HYq.out
      subst e
      exact hkid
    simp only at hex hjn
    have hql : q2.length ≤ 1048576 := HCS.out.2 (q0, q1, q2) (by rw [HYq.out]; exact List.getElem_mem hlt)
    have hkl : ∀ k (hk : k < q2.length), exL s0 f q2[k].toNat ≤ 16 := fun k hk => by
      have h1 := sum_take_succ (fun q : Int => exL s0 f q.toNat) q2 k hk
      have h2 := sum_take_le (fun q : Int => exL s0 f q.toNat) q2 (k + 1)
      omega
    have HEX := Lib.hid hex
    have HJN := Lib.hid hjn
    have HK := Lib.hid hkid2
    have HKL := Lib.hid hkl
    have H16 := Lib.hid h16
    have HQ := Lib.hid (And.intro hq0 (And.intro hq1 hq2))
    have HQ2 := Lib.hid hq2
    clear hkid hkid2 hex hq0 hq1 hq2 hjn hkl h16
    go_enter Try.func34, Try.ntmps34
    go_wp2_with fail
    generalize hB : (w.alloc (.cells #[.slice (some ⟨b, off, none⟩) s0.length ks0] 33)).alloc (.cells #[.slice none 0 0] 28) = B
    have gB : Gr w B := by rw [← hB]; exact (by repeat (first | exact Gr.refl _ | apply Gr.ext | apply Gr.alloc | apply Gr.drew))
    have sB : B.heap.size = w.heap.size + 2 := by rw [← hB]; simp
    have b0 : B.cell? ⟨w.heap.size, 0, none⟩ = some (.slice (some ⟨b, off, none⟩) s0.length ks0) := by rw [← hB]; repeat (first | ((with_reducible refine box_cell ?_ ?_) <;> first | omega | (simp; done) | (simp; omega) | rfl) | (with_reducible refine Gr.keep (Gr.alloc (Gr.refl _) _) ?_) | (with_reducible refine Gr.keep (Gr.ext (Gr.refl _) _) ?_) | (with_reducible refine Gr.keep (Gr.drew (Gr.refl _)) ?_))
    have vR : VRow B (w.heap.size + 1) 28 [.slice none 0 0] := by
      rw [← hB]
      repeat (first | ((with_reducible refine VRow.new ?_) <;> first | omega | (simp; done) | (simp; omega) | rfl) | (with_reducible refine VRow.gr ?_ (Gr.alloc (Gr.refl _) _)) | (with_reducible refine VRow.gr ?_ (Gr.ext (Gr.refl _) _)) | (with_reducible refine VRow.gr ?_ (Gr.drew (Gr.refl _))))
    have HVR := Lib.hid vR
    have HGB := Lib.hid gB
    have HB0 := Lib.hid b0
    have HSB := Lib.hid sB
    have hO5 : OwnR (α := GTree) B 28 (B.alloc (.cells #[] 28)) (.slice (some ⟨w.heap.size + 1 + 1, 0, none⟩) 0 0) [] [] := OwnR.lit0 (α := GTree) (w0 := B) (w := B) 28 (Nat.le_refl _) (show w.heap.size + 1 + 1 = B.heap.size by omega)
    have HO5 := Lib.hid hO5
    clear hB vR gB b0 hO5 sB
    go_loopw [6, 5] (fun s6 s5 wr => ∃ (k : Nat) (fps : List (List Nat)), k ≤ q2.length ∧ Hid (Fresh B fps.flatten) ∧ Gr B wr ∧ Hid (OwnR (α := GTree) B 28 wr s5 fps ((q2.take k).map fun q => exN s0 f q.toNat 0 (-1) 0)) ∧ s6 = .int .i64 k) (fun s6 _ _ => q2.length - (intOf s6).toNat)
    case atStart => exact ⟨0, [], by omega, Lib.hid (Fresh.nil _), (by repeat (first | exact Gr.refl _ | apply Gr.ext | apply Gr.alloc | apply Gr.drew)), HO5, rfl⟩
    case round =>
      obtain ⟨k, fps, hk, HF, hg, HO, rfl⟩ := hrel
      rename World => W3
      have HGR := Lib.hid hg
      obtain ⟨M, hM⟩ : ∃ M, M = (q2.take k).map fun q => exN s0 f q.toNat 0 (-1) 0 := ⟨_, rfl⟩
      rw [← hM] at HO
      have hMl : M.length = k := by rw [hM, List.length_map, List.length_take]; omega
      have HM := Lib.hid hM
      have HML := Lib.hid hMl
      obtain ⟨ra, rc, hform⟩ := HO.out.form
      subst hform
      have hgw := HGB.out.trans hg
      have HGW := Lib.hid hgw
      have y0 := hg.keep HB0.out
      have zy0 := blk y0
      have u0 := hgw.keep qz0
      have u1 := hgw.keep qz1
      have u2 := hgw.keep qz2
      have zu := blk u2
      have i0' : (0 : Int) ≤ (a : Int) := by omega
      have i1' : (a : Int) < (s0.length : Int) := by omega
      clear hg hgw hM hMl
      by_cases hlk : k < q2.length
      · have j0 : (0 : Int) ≤ (k : Int) := by omega
        have j1 : (k : Int) < (q2.length : Int) := by omega
        obtain ⟨m, hm, hma⟩ := HK.out k hlk
        have hml := HKL.out k hlk
        obtain ⟨bL, oL, rfl, hbL⟩ := oq23 k hlk
        have cL := HGW.out.keep (HQ2.out.int_at hlk).1
        have HCL := Lib.hid (HQ2.out.int_at hlk).1
        rw [hm] at cL hml HCL
        rw [Int.toNat_natCast] at hml
        have zcL := blk cL
        have HM2 := Lib.hid hm
        have HML2 := Lib.hid hml
        clear hm hml
        have kk0 := fun (w' : World) (h : Gr B w') => h.keep HB0.out
        have kk1 := fun (w' : World) (h : Gr B w') => (HGB.out.trans h).keep qz2
        have kk2 := fun (w' : World) (h : Gr B w') => (HGB.out.trans h).keep HCL.out
        go_wp2_with fail
        refine wp_region_U (fun w' => Gr B w') 14 (by kernel_rfl) (HGR.out.drew) (fun hU => ?_)
        refine anyU_take (i := 0) (v := ?_) rfl (by kernel_rfl) (by kernel_rfl) (by kernel_rfl) (by kernel_rfl) (fun _ _ _ h => h) (Or.inl ⟨by rfl, ?_⟩) (by assumption) ?_
        rotate_left 1
        · intro w hSw; (try dsimp only at hSw); go_simp; all_goals with_reducible rfl
        try simp only [Act.put, List.setIfInBounds_toArray, List.set_cons_zero, List.set_cons_succ]
        refine anyU_take (i := 1) (v := ?_) rfl (by kernel_rfl) (by kernel_rfl) (by kernel_rfl) (by kernel_rfl) (fun _ _ _ h => h) (Or.inl ⟨by rfl, ?_⟩) (by assumption) ?_
        rotate_left 1
        · intro w hSw; (try dsimp only at hSw); go_simp; all_goals with_reducible rfl
        try simp only [Act.put, List.setIfInBounds_toArray, List.set_cons_zero, List.set_cons_succ]
        refine anyU_take (i := 2) (v := ?_) rfl (by kernel_rfl) (by kernel_rfl) (by kernel_rfl) (by kernel_rfl) (fun _ _ _ h => h) (Or.inl ⟨by rfl, ?_⟩) (by assumption) ?_
        rotate_left 1
        · intro w hSw; (try dsimp only at hSw); go_simp; all_goals with_reducible rfl
        try simp only [Act.put, List.setIfInBounds_toArray, List.set_cons_zero, List.set_cons_succ]
        refine anyU_take (i := 4) (v := ?_) rfl (by kernel_rfl) (by kernel_rfl) (by kernel_rfl) (by kernel_rfl) (fun _ _ _ h => h) (Or.inl ⟨by rfl, ?_⟩) (by assumption) ?_
        rotate_left 1
        · intro w hSw; (try dsimp only at hSw); go_simp; all_goals with_reducible rfl
        try simp only [Act.put, List.setIfInBounds_toArray, List.set_cons_zero, List.set_cons_succ]
        refine anyU_take (i := 8) (v := ?_) rfl (by kernel_rfl) (by kernel_rfl) (by kernel_rfl) (by kernel_rfl) (fun _ _ _ h => h) (Or.inl ⟨by rfl, ?_⟩) (by assumption) ?_
        rotate_left 1
        · intro w hSw; (try dsimp only at hSw); go_simp; all_goals with_reducible rfl
        try simp only [Act.put, List.setIfInBounds_toArray, List.set_cons_zero, List.set_cons_succ]
        refine anyU_take (i := 3) (v := ?_) rfl (by kernel_rfl) (by kernel_rfl) (by kernel_rfl) (by kernel_rfl) (fun _ _ _ h => h) (Or.inl ⟨by rfl, ?_⟩) (by assumption) ?_
        rotate_left 1
        · intro w hSw; (try dsimp only at hSw); go_simp; all_goals with_reducible rfl
        try simp only [Act.put, List.setIfInBounds_toArray, List.set_cons_zero, List.set_cons_succ]
        refine anyU_take (i := 5) (v := ?_) rfl (by kernel_rfl) (by kernel_rfl) (by kernel_rfl) (by kernel_rfl) (fun _ _ _ h => h) (Or.inl ⟨by rfl, ?_⟩) (by assumption) ?_
        rotate_left 1
        · intro w hSw; (try dsimp only at hSw); go_simp; all_goals with_reducible rfl
        try simp only [Act.put, List.setIfInBounds_toArray, List.set_cons_zero, List.set_cons_succ]
        refine anyU_take (i := 6) (v := ?_) rfl (by kernel_rfl) (by kernel_rfl) (by kernel_rfl) (by kernel_rfl) (fun _ _ _ h => h) (Or.inl ⟨by rfl, ?_⟩) (by assumption) ?_
        rotate_left 1
        · intro w hSw; (try dsimp only at hSw); go_simp; all_goals with_reducible rfl
        try simp only [Act.put, List.setIfInBounds_toArray, List.set_cons_zero, List.set_cons_succ]
        refine anyU_take (i := 7) (v := ?_) rfl (by kernel_rfl) (by kernel_rfl) (by kernel_rfl) (by kernel_rfl) (fun _ _ _ h => h) (Or.inl ⟨by rfl, ?_⟩) (by assumption) ?_
        rotate_left 1
        · intro w hSw; (try dsimp only at hSw); go_simp; all_goals with_reducible rfl
        try simp only [Act.put, List.setIfInBounds_toArray, List.set_cons_zero, List.set_cons_succ]
        refine anyU_take (i := 9) (v := ?_) rfl (by kernel_rfl) (by kernel_rfl) (by kernel_rfl) (by kernel_rfl) (fun _ _ _ h => h) (Or.inl ⟨by rfl, ?_⟩) (by assumption) ?_
        rotate_left 1
        · intro w hSw; (try dsimp only at hSw); go_simp; all_goals with_reducible rfl
        try simp only [Act.put, List.setIfInBounds_toArray, List.set_cons_zero, List.set_cons_succ]
        refine anyU_take (i := 10) (v := ?_) rfl (by kernel_rfl) (by kernel_rfl) (by kernel_rfl) (by kernel_rfl) (fun _ _ _ h => h) (Or.inl ⟨by rfl, ?_⟩) (by assumption) ?_
        rotate_left 1
        · intro w hSw; (try dsimp only at hSw); go_simp; all_goals with_reducible rfl
        try simp only [Act.put, List.setIfInBounds_toArray, List.set_cons_zero, List.set_cons_succ]
        refine anyU_ready (rs := [11]) (by kernel_rfl) (by simp) ?_
        refine (ReadyU.cons rfl (fun K hK => ?_) ReadyU.nil)
        go_simp
        go_at_call 34
        refine (HIH.out m _ _ _ (Rd.gr HS.out (HGW.out.trans (by repeat (first | exact Gr.refl _ | apply Gr.ext | apply Gr.alloc | apply Gr.drew)))) (by omega) (by omega) HML2.out).mono ?_
        rintro e w' ⟨vt, ft, rfl, ht, x4, rfl⟩
        obtain ⟨fq, hsl, hfr, -⟩ := ht.read (by rw [exN_len]; unfold reachLen; have := HML2.out; omega) (fun x hx => by have := (exN_small s0 HCS.out.2 f m 0 (-1) 0 x hx).2.1; unfold reachLen; omega)
        obtain ⟨at4, ct4, hft⟩ := hsl.open
        obtain ⟨rfl, -⟩ := hft
        have HSL := Lib.hid hsl
        have HFQ := Lib.hid hfr
        clear ht hsl hfr
        refine hK.out _ _ (HGR.out.trans (by repeat (first | exact Gr.refl _ | apply Gr.ext | apply Gr.alloc | apply Gr.drew))) (fun hU1 => ?_)
        clear hK K
        try simp only [Act.put, List.setIfInBounds_toArray, List.set_cons_zero, List.set_cons_succ]
        refine anyU_ready (rs := [12]) (by kernel_rfl) (by simp) ?_
        refine (ReadyU.cons rfl (fun K hK => ?_) ReadyU.nil)
        go_simp
        refine hK.out _ _ (HGR.out.trans (by repeat (first | exact Gr.refl _ | apply Gr.ext | apply Gr.alloc | apply Gr.drew))) (fun hU2 => ?_)
        clear hK K
        try simp only [Act.put, List.setIfInBounds_toArray, List.set_cons_zero, List.set_cons_succ]
        refine anyU_ready (rs := [13]) (by kernel_rfl) (by simp) ?_
        refine (ReadyU.cons rfl (fun K hK => ?_) ReadyU.nil)
        refine step_append_RB (α := GTree) (wg := B) (w0 := B) (HGR.out.trans (by repeat (first | exact Gr.refl _ | apply Gr.ext | apply Gr.alloc | apply Gr.drew))) (Nat.le_refl _) (HGR.out.trans (by repeat (first | exact Gr.refl _ | apply Gr.ext | apply Gr.alloc | apply Gr.drew))).size (by rfl) _ _ _ (by rfl) 28 i0 (.agg #[.slice none 0 0]) 24 Try.underlying98 HZ.out.1 HZ.out.2.1 HZ.out.2.2.1 HZ.out.2.2.2 rfl (.slice ra M.length rc) fps _ (by rfl) (HO.out.gr (by repeat (first | exact Gr.refl _ | apply Gr.ext | apply Gr.alloc | apply Gr.drew))) _ [fq] [exN s0 f m 0 (-1) 0] (by rfl) (SrcR.one (by first | rfl | (simp; done) | (simp; omega)) ⟨_, rfl, HSL.out.gr (by repeat (first | exact Gr.refl _ | apply Gr.ext | apply Gr.alloc | apply Gr.drew))⟩) (fun b hb => by
          have h1 := (HO.out.base b hb).2
          intro hm
          have h2 := HFQ.out.2 b (by simpa using hm)
          simp at h2
          omega) (by rw [HML.out]; unfold maxLen; simp; omega) (by rw [HML.out]; simp; omega) ?_
        intro v9 w9 k1 k2 k3 k4
        have hFr : Fresh B (fps ++ [fq]).flatten := by
          rw [List.flatten_append, List.flatten_cons, List.flatten_nil, List.append_nil]
          exact HF.out.append HGR.out.size HO.out.lt (HFQ.out.of_le (by simp))
        replace k1 := Lib.hid k1
        replace k4 := Lib.hid k4
        have HFR := Lib.hid hFr
        obtain ⟨va, vc, hf9⟩ := k1.out.form
        subst hf9
        clear k2 k3 hFr
        refine hK.out _ _ k4.out (fun hU3 => ?_)
        clear hK K
        try simp only [Act.put, List.setIfInBounds_toArray, List.set_cons_zero, List.set_cons_succ]
        refine anyU_ready (rs := [14]) (by kernel_rfl) (by simp) ?_
        refine ReadyU.last rfl (fun K hK => ?_)
        go_simp
        refine hK.out _ _ ?_
        clear hK K
        try simp only [Act.put, List.setIfInBounds_toArray, List.set_cons_zero, List.set_cons_succ]
        refine anyU_done (by kernel_rfl) ?_ _
        go_wp2_with fail
        refine ⟨⟨k + 1, fps ++ [fq], by omega, HFR, k4.out, Lib.hid ?_, by go_num⟩, by simp [intOf]; omega⟩
        rw [List.take_succ_eq_append_getElem hlk, List.map_append, ← HM.out]
        have e : [q2[k]].map (fun q => exN s0 f q.toNat 0 (-1) 0) = [exN s0 f m 0 (-1) 0] := by rw [HM2.out]; rfl
        rw [e]
        have h := k1.out
        rwa [show (M ++ [exN s0 f m 0 (-1) 0]).length = M.length + 1 from by simp] at h
      · have hk2 : k = q2.length := by omega
        subst hk2
        obtain ⟨fk, hslk, hfk⟩ := HO.out.fresh (by rw [HML.out]; unfold reachLen; omega) HF.out
        have HSK := Lib.hid hslk
        have hMf : M = q2.map fun q => exN s0 f q.toNat 0 (-1) 0 := by rw [HM.out, List.take_length]
        have HMF := Lib.hid hMf
        have hms : (M.map List.length).sum ≤ 15 := by
          rw [hMf, List.map_map]
          have e : (List.length ∘ fun q : Int => exN s0 f q.toNat 0 (-1) 0) = fun q : Int => exL s0 f q.toNat := by funext q; exact exN_len ..
          rw [e]
          have := H16.out
          rw [HEX.out] at this
          omega
        have hsm : SmallT M := by
          refine ⟨by rw [HML.out]; omega, by omega, fun t ht x hx => ?_⟩
          rw [hMf] at ht
          obtain ⟨q, hq, rfl⟩ := List.mem_map.1 ht
          obtain ⟨j, hj, rfl⟩ := List.mem_iff_getElem.1 hq
          have h1 := exN_small s0 HCS.out.2 f _ 0 (-1) 0 x hx
          have h2 := HKL.out j hj
          rw [exN_len] at h1
          refine ⟨?_, ?_, h1.2.1, fun c hc => ?_⟩
          · rcases h1.1 with h | h <;> omega
          · rcases h1.1 with h | h <;> omega
          · have := h1.2.2 c hc; omega
        have HSMM := Lib.hid hsm
        have vr3 := HVR.out.gr HGR.out
        have HVR3 := Lib.hid vr3
        clear hslk hfk hMf hms hsm vr3
        have kk0 := fun (w' : World) (h : Gr B w') => h.keep HB0.out
        have kk1 := fun (w' : World) (h : Gr B w') => (HGB.out.trans h).keep qz0
        have kk2 := fun (w' : World) (h : Gr B w') => (HGB.out.trans h).keep qz1
        have HX0 := Lib.hid (show (Lit.int .i64 0).wf = true by decide)
        go_wp2_with fail
        refine wp_region_U (fun w' => Gr B w') 15 (by kernel_rfl) (HGR.out.drew) (fun hU => ?_)
        refine anyU_take (i := 0) (v := ?_) rfl (by kernel_rfl) (by kernel_rfl) (by kernel_rfl) (by kernel_rfl) (fun _ _ _ h => h) (Or.inl ⟨by rfl, ?_⟩) (by assumption) ?_
        rotate_left 1
        · intro w hSw; (try dsimp only at hSw); go_simp; all_goals with_reducible rfl
        try simp only [Act.put, List.setIfInBounds_toArray, List.set_cons_zero, List.set_cons_succ]
        refine anyU_take (i := 2) (v := ?_) rfl (by kernel_rfl) (by kernel_rfl) (by kernel_rfl) (by kernel_rfl) (fun _ _ _ h => h) (Or.inl ⟨by rfl, ?_⟩) (by assumption) ?_
        rotate_left 1
        · intro w hSw; (try dsimp only at hSw); go_simp; all_goals with_reducible rfl
        try simp only [Act.put, List.setIfInBounds_toArray, List.set_cons_zero, List.set_cons_succ]
        refine anyU_take (i := 6) (v := ?_) rfl (by kernel_rfl) (by kernel_rfl) (by kernel_rfl) (by kernel_rfl) (fun _ _ _ h => h) (Or.inl ⟨by rfl, ?_⟩) (by assumption) ?_
        rotate_left 1
        · intro w hSw; (try dsimp only at hSw); go_simp; all_goals with_reducible rfl
        try simp only [Act.put, List.setIfInBounds_toArray, List.set_cons_zero, List.set_cons_succ]
        refine anyU_take (i := 8) (v := ?_) rfl (by kernel_rfl) (by kernel_rfl) (by kernel_rfl) (by kernel_rfl) (fun _ _ _ h => h) (Or.inl ⟨by rfl, ?_⟩) (by assumption) ?_
        rotate_left 1
        · intro w hSw; (try dsimp only at hSw); go_simp; all_goals with_reducible rfl
        try simp only [Act.put, List.setIfInBounds_toArray, List.set_cons_zero, List.set_cons_succ]
        refine anyU_take (i := 13) (v := ?_) rfl (by kernel_rfl) (by kernel_rfl) (by kernel_rfl) (by kernel_rfl) (fun _ _ _ h => h) (Or.inl ⟨by rfl, ?_⟩) (by assumption) ?_
        rotate_left 1
        · intro w hSw; (try dsimp only at hSw); go_simp; all_goals with_reducible rfl
        try simp only [Act.put, List.setIfInBounds_toArray, List.set_cons_zero, List.set_cons_succ]
        refine anyU_take (i := 1) (v := ?_) rfl (by kernel_rfl) (by kernel_rfl) (by kernel_rfl) (by kernel_rfl) (fun _ _ _ h => h) (Or.inl ⟨by rfl, ?_⟩) (by assumption) ?_
        rotate_left 1
        · intro w hSw; (try dsimp only at hSw); go_simp; all_goals with_reducible rfl
        try simp only [Act.put, List.setIfInBounds_toArray, List.set_cons_zero, List.set_cons_succ]
        refine anyU_take (i := 7) (v := ?_) rfl (by kernel_rfl) (by kernel_rfl) (by kernel_rfl) (by kernel_rfl) (fun _ _ _ h => h) (Or.inl ⟨by rfl, ?_⟩) (by assumption) ?_
        rotate_left 1
        · intro w hSw; (try dsimp only at hSw); go_simp; all_goals with_reducible rfl
        try simp only [Act.put, List.setIfInBounds_toArray, List.set_cons_zero, List.set_cons_succ]
        refine anyU_take (i := 3) (v := ?_) rfl (by kernel_rfl) (by kernel_rfl) (by kernel_rfl) (by kernel_rfl) (fun _ _ _ h => h) (Or.inl ⟨by rfl, ?_⟩) (by assumption) ?_
        rotate_left 1
        · intro w hSw; (try dsimp only at hSw); go_simp; all_goals with_reducible rfl
        try simp only [Act.put, List.setIfInBounds_toArray, List.set_cons_zero, List.set_cons_succ]
        refine anyU_take (i := 9) (v := ?_) rfl (by kernel_rfl) (by kernel_rfl) (by kernel_rfl) (by kernel_rfl) (fun _ _ _ h => h) (Or.inl ⟨by rfl, ?_⟩) (by assumption) ?_
        rotate_left 1
        · intro w hSw; (try dsimp only at hSw); go_simp; all_goals with_reducible rfl
        try simp only [Act.put, List.setIfInBounds_toArray, List.set_cons_zero, List.set_cons_succ]
        refine anyU_take (i := 4) (v := ?_) rfl (by kernel_rfl) (by kernel_rfl) (by kernel_rfl) (by kernel_rfl) (fun _ _ _ h => h) (Or.inl ⟨by rfl, ?_⟩) (by assumption) ?_
        rotate_left 1
        · intro w hSw; (try dsimp only at hSw); go_simp; all_goals with_reducible rfl
        try simp only [Act.put, List.setIfInBounds_toArray, List.set_cons_zero, List.set_cons_succ]
        refine anyU_take (i := 10) (v := ?_) rfl (by kernel_rfl) (by kernel_rfl) (by kernel_rfl) (by kernel_rfl) (fun _ _ _ h => h) (Or.inl ⟨by rfl, ?_⟩) (by assumption) ?_
        rotate_left 1
        · intro w hSw; (try dsimp only at hSw); go_simp; all_goals with_reducible rfl
        try simp only [Act.put, List.setIfInBounds_toArray, List.set_cons_zero, List.set_cons_succ]
        refine anyU_take (i := 5) (v := ?_) rfl (by kernel_rfl) (by kernel_rfl) (by kernel_rfl) (by kernel_rfl) (fun _ _ _ h => h) (Or.inl ⟨by rfl, ?_⟩) (by assumption) ?_
        rotate_left 1
        · intro w hSw; (try dsimp only at hSw); go_simp; all_goals with_reducible rfl
        try simp only [Act.put, List.setIfInBounds_toArray, List.set_cons_zero, List.set_cons_succ]
        refine anyU_take (i := 11) (v := ?_) rfl (by kernel_rfl) (by kernel_rfl) (by kernel_rfl) (by kernel_rfl) (fun _ _ _ h => h) (Or.inl ⟨by rfl, ?_⟩) (by assumption) ?_
        rotate_left 1
        · intro w hSw; (try dsimp only at hSw); go_simp; all_goals with_reducible rfl
        try simp only [Act.put, List.setIfInBounds_toArray, List.set_cons_zero, List.set_cons_succ]
        refine anyU_take (i := 12) (v := ?_) rfl (by kernel_rfl) (by kernel_rfl) (by kernel_rfl) (by kernel_rfl) (fun _ _ _ h => h) (Or.inl ⟨by rfl, ?_⟩) (by assumption) ?_
        rotate_left 1
        · intro w hSw; (try dsimp only at hSw); go_simp; all_goals with_reducible rfl
        try simp only [Act.put, List.setIfInBounds_toArray, List.set_cons_zero, List.set_cons_succ]
        refine anyU_ready (rs := [14]) (by kernel_rfl) (by simp) ?_
        refine (ReadyU.cons rfl (fun K hK => ?_) ReadyU.nil)
        go_simp
        go_at_call 71
        refine (l13Join_any (fr := _) (cr := #[.int .i64 0, .int .i64 0, .int .i64 0, .int .i64 q1, .string q0, .slice none 0 0]) (0, 0, 0, q1, q0, []) M _ (rdNode_mk 0 0 0 q1 q0 [] HX0.out HX0.out HX0.out HQ.out.2.1 HQ.out.1 (SlR.nil _)) (HSK.out.gr (by repeat (first | exact Gr.refl _ | apply Gr.ext | apply Gr.alloc | apply Gr.drew))) HSMM.out).mono ?_
        rintro e w' ⟨vt, ft, rfl, ht, x4, rfl⟩
        have htl := ht.lower (w0 := w) (by have := (HGB.out.trans (HGR.out.trans ((by repeat (first | exact Gr.refl _ | apply Gr.ext | apply Gr.alloc | apply Gr.drew)) : Gr W3 W3.drew))).size; exact this)
        have hft := ht.ge
        obtain ⟨at4, ct4, hform⟩ := ht.form
        subst hform
        have vr4 := HVR3.out.gr ((by repeat (first | exact Gr.refl _ | apply Gr.ext | apply Gr.alloc | apply Gr.drew)) : Gr W3 (W3.drew.ext x4))
        have d0 := vr4.box
        have fd0 := vr4.frozen 0
        have zd0 := blk d0
        have HT := Lib.hid htl
        have HFT := Lib.hid hft
        have HVR4 := Lib.hid vr4
        clear ht htl hft vr4
        refine hK.out _ _ (HGR.out.trans (by repeat (first | exact Gr.refl _ | apply Gr.ext | apply Gr.alloc | apply Gr.drew))) (fun hU1 => ?_)
        clear hK K
        try simp only [Act.put, List.setIfInBounds_toArray, List.set_cons_zero, List.set_cons_succ]
        refine anyU_ready (rs := [15]) (by kernel_rfl) (by simp) ?_
        refine ReadyU.last rfl (fun K hK => ?_)
        go_simp
        refine hK.out _ _ ?_
        clear hK K
        try simp only [Act.put, List.setIfInBounds_toArray, List.set_cons_zero, List.set_cons_succ]
        refine anyU_done (by kernel_rfl) ?_ _
        obtain ⟨NS, hNS⟩ : ∃ NS, NS = joN (0, 0, 0, q1, q0, []) M := ⟨_, rfl⟩
        rw [← hNS] at HT
        rw [← hNS]
        have hfin : NS = exN s0 (f + 1) a 0 (-1) 0 := by rw [hNS, HMF.out, HJN.out]
        have HFIN := Lib.hid hfin
        clear hNS hfin
        go_wp2_with fail
        generalize hF : (W3.drew.ext x4).setCell ⟨w.heap.size + 1, 0, none⟩ (.slice at4 NS.length ct4) = WF
        have vF : VRow WF (w.heap.size + 1) 28 [.slice at4 NS.length ct4] := by rw [← hF]; exact HVR4.out.set 0 _
        have hs3 : w.heap.size + 2 ≤ W3.heap.size := by have h1 := HSB.out; have h2 := HGR.out.size; omega
        have tF : OwnT w WF (.slice at4 NS.length ct4) ft NS := by
          rw [← hF]
          refine HT.out.wr ((Wr.refl [w.heap.size + 1] _).setCell (by simp) _) (fun b hb hm => ?_)
          have h1 := HFT.out b hb
          simp at hm h1
          omega
        have gF : Gr w WF := by rw [← hF]; exact (HGW.out.trans (by repeat (first | exact Gr.refl _ | apply Gr.ext | apply Gr.alloc | apply Gr.drew))).setCell (p := ⟨w.heap.size + 1, 0, none⟩) (by simp) _
        have r0' := vF.box
        clear hF vF
        exact bodyPost_ret (v := .agg #[.slice at4 NS.length ct4]) (by simp [results, Try.results34, go_sem, r0']) rfl ⟨_, ft, rfl, by rw [← HFIN.out]; exact tF, gF⟩
end Go.Proofs.Ytadoalpcakninaa
