/- InternTree of the reference. No condition. -/
import Derived.Test.YtmfcagcanhmdbaaItnS
import Derived.Test.YtmfcagcanhmdbaaItnR
import Derived.Test.YtmfcagcanhmdbaaCopS
namespace Go.Proofs.Ytmfcagcanhmdbaa
open Go.RowKit
set_option linter.unusedVariables false
set_option linter.unusedSimpArgs false

set_option maxRecDepth 100000 in
set_option maxHeartbeats 8000000 in
theorem specIntern_any {fs : List Nat} {cs : Array Value} (s : GStore) {ft : List Nat} {ct : Array Value} (t : GTree) (i : Int) (w : World) (hs : Rd.rd fs w cs.toList s) (ht : Rd.rd ft w ct.toList t) (hl : wtStore s ≤ 1048576) (hl2 : wtTree t ≤ 1048576) :
    Calls Try.prog 8 #[.agg cs, .agg ct, .int .i64 i] w (ItnPost w (itnOf s t i)) := by
  obtain ⟨i0, hi0, hz0, hz1, hz2⟩ := info_parts Try.infoIntC
  have HZ := Lib.hid (And.intro hi0 (And.intro hz0 (And.intro hz1 hz2)))
  clear hi0 hz0 hz1 hz2
  have HWT := Lib.hid hl
  have HWT2 := Lib.hid hl2
  clear hl hl2
  have HS := Lib.hid hs
  obtain ⟨s0, rfl⟩ : ∃ y, y = s := ⟨s, rfl⟩
  obtain ⟨vs0, fs0, rfl, hfps, hs0⟩ := rdStore_inv s0 hs
  have FPs := Lib.hid hfps
  clear hfps
  obtain ⟨as0, ks0, rfl, os01, os02, os03⟩ := hs0.open
  clear hs
  have HT := Lib.hid ht
  obtain ⟨t0, rfl⟩ : ∃ y, y = t := ⟨t, rfl⟩
  obtain ⟨vt0, ft0, rfl, hfpt, ht0⟩ := rdTree_inv t0 ht
  have FPt := Lib.hid hfpt
  clear hfpt
  obtain ⟨at0, kt0, rfl, ot01, ot02, ot03⟩ := ht0.open
  clear ht
  have HL := Lib.hid (show s0.length ≤ 2097152 ∧ ∀ c ∈ s0, c.2.2.length ≤ 1048576 from ⟨by have := (kids_store HWT.out).1; omega, (kids_store HWT.out).2⟩)
  have HLT := Lib.hid (kids_tree HWT2.out)
  have htl := HLT.out.1
  have iw2 : IntKind.i64.wrap ((t0.length : Int) - 1) = (t0.length : Int) - 1 := IntWalk.i64_in _ (by omega)
  by_cases hv : ValidStore s0
  · have HB := Lib.hid (validB_true hv)
    by_cases hi : 0 ≤ i ∧ i ≤ (t0.length : Int) - 1
    · obtain ⟨n, rfl⟩ : ∃ n : Nat, i = n := ⟨i.toNat, by omega⟩
      have hn : n < t0.length := by omega
      have HI := Lib.hid hi
      have HN0 := Lib.hid (itnOf_yes (s := s0) (t := t0) (i := (n : Int)) ⟨hv, hi⟩)
      clear hi hv
      go_enter Try.func8, Try.ntmps8
      go_wp2_with fail
      refine (specValid_any _ _ s0 _ (Rd.gr HS.out (by repeat (first | exact Gr.refl _ | apply Gr.ext | apply Gr.alloc | apply Gr.drew)))).mono ?_
      rintro e w' ⟨rfl, x1, rfl⟩
      rw [HB.out]
      generalize hB : (((w.alloc (.cells #[.slice as0 s0.length ks0] 32)).alloc (.cells #[.slice at0 t0.length kt0] 38)).alloc (.cells #[.slice none 0 0] 32)).ext x1 = B
      have gB : Gr w B := by rw [← hB]; exact (by repeat (first | exact Gr.refl _ | apply Gr.ext | apply Gr.alloc | apply Gr.drew))
      have cs1 : B.cell? ⟨w.heap.size, 0, none⟩ = some (.slice as0 s0.length ks0) := by rw [← hB]; exact Gr.keep (by repeat (first | exact Gr.refl _ | apply Gr.ext | apply Gr.alloc | apply Gr.drew)) (box_cell (A := w) rfl rfl)
      have ct1 : B.cell? ⟨w.heap.size + 1, 0, none⟩ = some (.slice at0 t0.length kt0) := by rw [← hB]; exact Gr.keep (by repeat (first | exact Gr.refl _ | apply Gr.ext | apply Gr.alloc | apply Gr.drew)) (box_cell (A := w.alloc (.cells #[.slice as0 s0.length ks0] 32)) (by simp) rfl)
      have vr1 : VRow B (w.heap.size + 1 + 1) 32 [.slice none 0 0] := by
        rw [← hB]
        exact (VRow.new (A := (w.alloc (.cells #[.slice as0 s0.length ks0] 32)).alloc (.cells #[.slice at0 t0.length kt0] 38)) (by simp)).gr (by repeat (first | exact Gr.refl _ | apply Gr.ext | apply Gr.alloc | apply Gr.drew))
      have sB : w.heap.size + 3 ≤ B.heap.size := by rw [← hB]; simp
      have HGB := Lib.hid gB
      have HCS1 := Lib.hid cs1
      have HCT1 := Lib.hid ct1
      have HVR1 := Lib.hid vr1
      have zcs1 := blk cs1
      have zct1 := blk ct1
      clear hB gB vr1
      go_wp2_with fail
      refine (l1In_yes _ _ _ _ HI.out.1 HI.out.2).mono ?_
      rintro e w' ⟨rfl, x2, rfl⟩
      go_wp2_with fail
      generalize hC : B.ext x2 = C
      have gBC : Gr B C := by rw [← hC]; exact (by repeat (first | exact Gr.refl _ | apply Gr.ext | apply Gr.alloc | apply Gr.drew))
      have HGC := Lib.hid (HGB.out.trans gBC)
      have cs2 := gBC.keep cs1
      have ct2 := gBC.keep ct1
      have HCS2 := Lib.hid cs2
      have HCT2 := Lib.hid ct2
      have HVR2 := Lib.hid (HVR1.out.gr gBC)
      have sC : w.heap.size + 3 ≤ C.heap.size := by have := gBC.size; omega
      have hsum : C.heap.size = C.heap.size := rfl
      clear gBC cs1 ct1 zcs1 zct1
      have hlit : B.heap.size + x2.objs.size = C.heap.size := by rw [← hC]; simp
      rw [hlit]
      clear hC hlit hsum
      go_loopw [9, 8] (fun s9 s8 wr => ∃ (k : Nat) (fps : List (List Nat)), k ≤ t0.length ∧ Hid (Gr C wr) ∧ OwnR (α := Int) C 3 wr s8 fps (List.replicate k (-1)) ∧ Hid (fps.flatten = []) ∧ s9 = .int .i64 k) (fun s9 _ _ => t0.length - (intOf s9).toNat)
      case atStart => exact ⟨0, [], by omega, Lib.hid (by repeat (first | exact Gr.refl _ | apply Gr.ext | apply Gr.alloc | apply Gr.drew)), OwnR.lit0 (α := Int) (w0 := C) (w := C) 3 (Nat.le_refl _) rfl, Lib.hid rfl, rfl⟩
      case round =>
        obtain ⟨k, fps, hk, HG5, hown, HF, rfl⟩ := hrel
        rename World => W5
        have HO := Lib.hid hown
        obtain ⟨ra, rc, hform⟩ := hown.form
        rw [List.length_replicate] at hform
        subst hform
        have ct5 := HG5.out.keep ct2
        have zct5 := blk ct5
        have k0' : (0 : Int) ≤ (k : Int) := by omega
        clear hown
        by_cases hlk : k < t0.length
        · have iwk : IntKind.i64.wrap ((k : Int) + 1) = (k : Int) + 1 := IntWalk.i64_in _ (by omega)
          go_wp2_with (first | (at_builtin; refine wpList_append_R (α := Int) (w0 := C) (HG5.out.trans (by repeat (first | exact Gr.refl _ | apply Gr.ext | apply Gr.alloc | apply Gr.drew))) rfl _ _ 59 rfl 3 i0 (.int .i64 0) 8 Try.underlying59 HZ.out.1 HZ.out.2.1 HZ.out.2.2.1 HZ.out.2.2.2 rfl _ fps (List.replicate k (-1)) (by rfl) (HO.out.gr (by repeat (first | exact Gr.refl _ | apply Gr.ext | apply Gr.alloc | apply Gr.drew))) _ [[]] [(-1)] (by rfl) (SrcR.one (by simp) (intRd (by decide) _)) (fun b _ => by simp) (by unfold maxLen; simp; omega) (by simp; omega) ?_; intro v3 w3 h1 h2 h3 h4; replace h1 := Lib.hid h1; replace h4 := Lib.hid h4; clear h2 h3))
          refine ⟨⟨k + 1, fps ++ [[]], by omega, h4, ?_, Lib.hid (by rw [List.flatten_append, HF.out]; rfl), by go_num⟩, by simp [intOf]; omega⟩
          rw [List.replicate_succ']
          exact h1.out
        · have hk2 : k = t0.length := by omega
          subst hk2
          obtain ⟨cb, cp, rest, hv, hcb, hcb2, hd⟩ := DRow.of_own (by have h := HO.out; exact h) (fun e => by have h := congrArg List.length e; rw [List.length_replicate, List.length_nil] at h; omega)
          rw [List.length_replicate] at hv
          injection hv with e1 e2 e3
          subst e1 e3
          have HD := Lib.hid hd
          have cs5 := HG5.out.keep cs2
          have zcs5 := blk cs5
          have HVR5 := Lib.hid (HVR2.out.gr HG5.out)
          have sz5 := HG5.out.size
          clear hd e2 ct2 cs2
          have hrt : Rd.rd ft W5 (#[.slice at0 t0.length kt0] : Array Value).toList t0 := Rd.gr HT.out (HGC.out.trans HG5.out)
          have hrs : Rd.rd fs W5 (#[.slice as0 s0.length ks0] : Array Value).toList s0 := Rd.gr HS.out (HGC.out.trans HG5.out)
          have hpt : wtStore s0 + pot t0 (List.replicate t0.length (-1)) ≤ 2097152 := by rw [pot_start]; have := HWT.out; have := HWT2.out; omega
          have hfs : cb ∉ fs := fun hm => by have := Rd.lt HS.out _ hm; omega
          have hdl : (List.replicate t0.length (-1 : Int)).length = t0.length := List.length_replicate
          have hbd : ∀ y ∈ List.replicate t0.length (-1 : Int), y < (s0.length : Int) := fun y hy => by rw [(List.mem_replicate.1 hy).2]; omega
          have hcl : Calls Try.prog 33 #[.agg #[.slice as0 s0.length ks0], .agg #[.slice at0 t0.length kt0], .int .i64 (n : Int), .slice (some ⟨cb, 0, none⟩) t0.length rc] W5 (InSPost rest cb w W5 fs (inN t0 t0.length s0 (List.replicate t0.length (-1)) n)) :=
            l39Intern_any t0 HLT.out.1 HLT.out.2 rest cb w (by omega) t0.length n ft _ fs _ rc s0 (List.replicate t0.length (-1)) W5 hrt hrs (fun b hb => Rd.lt HT.out b hb) hfs hn (by omega) (HGC.out.trans HG5.out) HD.out hdl hpt hbd
          have HCL := Lib.hid hcl
          clear hcl hrt hrs hpt hfs hdl hbd
          go_wp2_with fail
          refine HCL.out.mono ?_
          rintro e W6 ⟨a6, n6, c6, y6, d6, rfl, g6, wr6, vc6, hno, hyes⟩
          have HG6 := Lib.hid g6
          have vr6 := HVR5.out.wr wr6 (by simp; omega)
          have HVR6 := Lib.hid vr6
          have cs6 := wr6.keepC cs5 (by simp; omega)
          have zcs6 := blk cs6
          have sz6 := wr6.size
          clear g6 wr6 vc6 vr6 cs5 zcs5 ct5 zct5
          by_cases hg : GoodT t0 n
          · obtain ⟨s', d', k', hN, hk0, hk1, hwt'⟩ := itnN_good (s := s0) hn hg
            obtain ⟨rfl, -, fs6, hsl6, hfs6⟩ := hyes s' d' k' hN
            have hn6 : n6 = s'.length := by obtain ⟨a, c, e, -⟩ := hsl6; injection e
            subst hn6
            have HN : Hid (itnOf s0 t0 (n : Int) = (s', y6)) := Lib.hid (by rw [HN0.out]; unfold itnN; rw [Int.toNat_natCast, hN])
            have hl' : s'.length ≤ 2097152 := by
              have h2 := HWT.out
              have h3 := HWT2.out
              have h4 := wtL_len wtCell s'
              have h5 : wtStore s' = wtL wtCell s' := rfl
              omega
            have HL' := Lib.hid (And.intro hl' (show ∀ c ∈ s', c.2.2.length ≤ 1048576 from inN_all (P := fun c => c.2.2.length ≤ 1048576) t0 (fun x hx ks hks => by show ks.length ≤ _; rw [hks]; exact HLT.out.2 x hx) _ _ _ _ _ _ _ HL.out.2 hN))
            have HSL6 := Lib.hid hsl6
            have hy0 : ¬ y6 < 0 := by omega
            clear hno hyes hN hg hk0 hk1 hwt' hl' hsl6 hfs6
            go_wp2_with fail
            refine (l39Copy_any s' _ (rdStore_mk s' (HSL6.out.gr (by repeat (first | exact Gr.refl _ | apply Gr.ext | apply Gr.alloc | apply Gr.drew)))) HL'.out.1 HL'.out.2).mono ?_
            rintro e W9 ⟨v9, F9, rfl, hO9, g9⟩
            obtain ⟨a9, c9, hform⟩ := hO9.form
            subst hform
            have HO9 := Lib.hid hO9
            have HF9 := Lib.hid (show ∀ b ∈ F9, w.heap.size + 3 ≤ b from fun b hb => by have := hO9.ge b hb; (simp at this; omega))
            have HG9 := Lib.hid ((HG6.out.trans (Gr.alloc (Gr.refl _) _)).trans g9)
            have vr9 := (HVR6.out.gr (Gr.alloc (Gr.refl _) _)).gr g9
            have r9 := vr9.box
            have zr9 := blk r9
            have fr9 := vr9.frozen 0
            have HVR9 := Lib.hid vr9
            clear hO9 g9 vr9
            go_wp2_with fail
            generalize hWF : W9.setCell ⟨w.heap.size + 1 + 1, 0, none⟩ (.slice a9 s'.length c9) = WF
            have vF : VRow WF (w.heap.size + 1 + 1) 32 [.slice a9 s'.length c9] := by rw [← hWF]; exact HVR9.out.set 0 _
            have gF : Gr w WF := by rw [← hWF]; exact Gr.setCell (p := ⟨w.heap.size + 1 + 1, 0, none⟩) HG9.out (by show _ ≤ w.heap.size + 1 + 1; omega) _
            have oF : OwnC (W6.alloc (.cells #[.slice a6 s'.length c6] 32)) WF (.slice a9 s'.length c9) F9 s' := by rw [← hWF]; exact HO9.out.wr ((Wr.refl [w.heap.size + 1 + 1] _).setCell (List.mem_singleton.2 rfl) _) (fun b hb hm => by have := HF9.out b hb; have h3 := List.mem_singleton.1 hm; omega)
            obtain ⟨fq, h1, h2, -⟩ := oF.read (by have := HL'.out.1; unfold reachLen; omega)
            have h3 : Fresh w fq := h2.of_le (by (simp; omega))
            have r0' := vF.box
            clear hWF vF oF h2
            exact bodyPost_ret (v := .tuple #[.agg #[.slice a9 s'.length c9], .int .i64 y6]) (by simp [results, Try.results8, go_sem, r0']) rfl ⟨#[.slice a9 s'.length c9], fq, by rw [HN.out], by rw [HN.out]; exact rdStore_mk _ h1, h3, gF⟩
          · have hbad := itnN_bad (s := s0) hn hg
            obtain rfl := hno hbad
            have HN : Hid (itnOf s0 t0 (n : Int) = (s0, -1)) := Lib.hid (by rw [HN0.out]; unfold itnN; rw [Int.toNat_natCast, hbad])
            clear hno hyes hg hbad
            go_wp2_with fail
            refine (l39Copy_any s0 _ (Rd.gr HS.out (HG6.out.trans (by repeat (first | exact Gr.refl _ | apply Gr.ext | apply Gr.alloc | apply Gr.drew)))) HL.out.1 HL.out.2).mono ?_
            rintro e W9 ⟨v9, F9, rfl, hO9, g9⟩
            obtain ⟨a9, c9, hform⟩ := hO9.form
            subst hform
            have HO9 := Lib.hid hO9
            have HF9 := Lib.hid (show ∀ b ∈ F9, w.heap.size + 3 ≤ b from fun b hb => by have := hO9.ge b hb; (simp at this; omega))
            have HG9 := Lib.hid ((HG6.out.trans (Gr.alloc (Gr.refl _) _)).trans g9)
            have vr9 := (HVR6.out.gr (Gr.alloc (Gr.refl _) _)).gr g9
            have r9 := vr9.box
            have zr9 := blk r9
            have fr9 := vr9.frozen 0
            have HVR9 := Lib.hid vr9
            clear hO9 g9 vr9
            go_wp2_with fail
            generalize hWF : W9.setCell ⟨w.heap.size + 1 + 1, 0, none⟩ (.slice a9 s0.length c9) = WF
            have vF : VRow WF (w.heap.size + 1 + 1) 32 [.slice a9 s0.length c9] := by rw [← hWF]; exact HVR9.out.set 0 _
            have gF : Gr w WF := by rw [← hWF]; exact Gr.setCell (p := ⟨w.heap.size + 1 + 1, 0, none⟩) HG9.out (by show _ ≤ w.heap.size + 1 + 1; omega) _
            have oF : OwnC (W6.alloc (.cells #[.slice a6 n6 c6] 32)) WF (.slice a9 s0.length c9) F9 s0 := by rw [← hWF]; exact HO9.out.wr ((Wr.refl [w.heap.size + 1 + 1] _).setCell (List.mem_singleton.2 rfl) _) (fun b hb hm => by have := HF9.out b hb; have h3 := List.mem_singleton.1 hm; omega)
            obtain ⟨fq, h1, h2, -⟩ := oF.read (by have := HL.out.1; unfold reachLen; omega)
            have h3 : Fresh w fq := h2.of_le (by (simp; omega))
            have r0' := vF.box
            clear hWF vF oF h2
            exact bodyPost_ret (v := .tuple #[.agg #[.slice a9 s0.length c9], .int .i64 (-1)]) (by simp [results, Try.results8, go_sem, r0']) rfl ⟨#[.slice a9 s0.length c9], fq, by rw [HN.out], by rw [HN.out]; exact rdStore_mk _ h1, h3, gF⟩
    · have HN : Hid (itnOf s0 t0 i = (s0, -1)) := Lib.hid (itnOf_no fun h => hi h.2)
      have HI : Hid (i < 0 ∨ (t0.length : Int) - 1 < i) := Lib.hid (by omega)
      clear hi hv
      go_enter Try.func8, Try.ntmps8
      go_wp2_with fail
      refine (specValid_any _ _ s0 _ (Rd.gr HS.out (by repeat (first | exact Gr.refl _ | apply Gr.ext | apply Gr.alloc | apply Gr.drew)))).mono ?_
      rintro e w' ⟨rfl, x1, rfl⟩
      rw [HB.out]
      generalize hB : (((w.alloc (.cells #[.slice as0 s0.length ks0] 32)).alloc (.cells #[.slice at0 t0.length kt0] 38)).alloc (.cells #[.slice none 0 0] 32)).ext x1 = B
      have gB : Gr w B := by rw [← hB]; exact (by repeat (first | exact Gr.refl _ | apply Gr.ext | apply Gr.alloc | apply Gr.drew))
      have cs1 : B.cell? ⟨w.heap.size, 0, none⟩ = some (.slice as0 s0.length ks0) := by rw [← hB]; exact Gr.keep (by repeat (first | exact Gr.refl _ | apply Gr.ext | apply Gr.alloc | apply Gr.drew)) (box_cell (A := w) rfl rfl)
      have ct1 : B.cell? ⟨w.heap.size + 1, 0, none⟩ = some (.slice at0 t0.length kt0) := by rw [← hB]; exact Gr.keep (by repeat (first | exact Gr.refl _ | apply Gr.ext | apply Gr.alloc | apply Gr.drew)) (box_cell (A := w.alloc (.cells #[.slice as0 s0.length ks0] 32)) (by simp) rfl)
      have vr1 : VRow B (w.heap.size + 1 + 1) 32 [.slice none 0 0] := by
        rw [← hB]
        exact (VRow.new (A := (w.alloc (.cells #[.slice as0 s0.length ks0] 32)).alloc (.cells #[.slice at0 t0.length kt0] 38)) (by simp)).gr (by repeat (first | exact Gr.refl _ | apply Gr.ext | apply Gr.alloc | apply Gr.drew))
      have sB : w.heap.size + 3 ≤ B.heap.size := by rw [← hB]; simp
      have HGB := Lib.hid gB
      have HCS1 := Lib.hid cs1
      have HCT1 := Lib.hid ct1
      have HVR1 := Lib.hid vr1
      have zcs1 := blk cs1
      have zct1 := blk ct1
      clear hB gB vr1
      go_wp2_with fail
      refine (l1In_no _ _ _ _ HI.out).mono ?_
      rintro e w' ⟨rfl, x2, rfl⟩
      go_wp2_with fail
      refine (l39Copy_any s0 _ (Rd.gr HS.out (HGB.out.trans (by repeat (first | exact Gr.refl _ | apply Gr.ext | apply Gr.alloc | apply Gr.drew)))) HL.out.1 HL.out.2).mono ?_
      rintro e W9 ⟨v9, F9, rfl, hO9, g9⟩
      obtain ⟨a9, c9, hform⟩ := hO9.form
      subst hform
      have HO9 := Lib.hid hO9
      have HF9 := Lib.hid (show ∀ b ∈ F9, w.heap.size + 3 ≤ b from fun b hb => by have := hO9.ge b hb; (simp at this; omega))
      have HG9 := Lib.hid ((HGB.out.trans (by repeat (first | exact Gr.refl _ | apply Gr.ext | apply Gr.alloc | apply Gr.drew))).trans g9)
      have vr9 := (HVR1.out.gr (Gr.ext (Gr.refl _) x2)).gr g9
      have r9 := vr9.box
      have zr9 := blk r9
      have fr9 := vr9.frozen 0
      have HVR9 := Lib.hid vr9
      clear hO9 g9 vr9
      go_wp2_with fail
      generalize hWF : W9.setCell ⟨w.heap.size + 1 + 1, 0, none⟩ (.slice a9 s0.length c9) = WF
      have vF : VRow WF (w.heap.size + 1 + 1) 32 [.slice a9 s0.length c9] := by rw [← hWF]; exact HVR9.out.set 0 _
      have gF : Gr w WF := by rw [← hWF]; exact Gr.setCell (p := ⟨w.heap.size + 1 + 1, 0, none⟩) HG9.out (by show _ ≤ w.heap.size + 1 + 1; omega) _
      have oF : OwnC (B.ext x2) WF (.slice a9 s0.length c9) F9 s0 := by rw [← hWF]; exact HO9.out.wr ((Wr.refl [w.heap.size + 1 + 1] _).setCell (List.mem_singleton.2 rfl) _) (fun b hb hm => by have := HF9.out b hb; have h3 := List.mem_singleton.1 hm; omega)
      obtain ⟨fq, h1, h2, -⟩ := oF.read (by have := HL.out.1; unfold reachLen; omega)
      have h3 : Fresh w fq := h2.of_le (by (simp; omega))
      have r0' := vF.box
      clear hWF vF oF h2
      exact bodyPost_ret (v := .tuple #[.agg #[.slice a9 s0.length c9], .int .i64 (-1)]) (by simp [results, Try.results8, go_sem, r0']) rfl ⟨#[.slice a9 s0.length c9], fq, by rw [HN.out], by rw [HN.out]; exact rdStore_mk _ h1, h3, gF⟩
  · have HN : Hid (itnOf s0 t0 i = (s0, -1)) := Lib.hid (itnOf_no fun h => hv h.1)
    have HB := Lib.hid (validB_false hv)
    clear hv
    go_enter Try.func8, Try.ntmps8
    go_wp2_with fail
    refine (specValid_any _ _ s0 _ (Rd.gr HS.out (by repeat (first | exact Gr.refl _ | apply Gr.ext | apply Gr.alloc | apply Gr.drew)))).mono ?_
    rintro e w' ⟨rfl, x1, rfl⟩
    rw [HB.out]
    generalize hB : (((w.alloc (.cells #[.slice as0 s0.length ks0] 32)).alloc (.cells #[.slice at0 t0.length kt0] 38)).alloc (.cells #[.slice none 0 0] 32)).ext x1 = B
    have gB : Gr w B := by rw [← hB]; exact (by repeat (first | exact Gr.refl _ | apply Gr.ext | apply Gr.alloc | apply Gr.drew))
    have cs1 : B.cell? ⟨w.heap.size, 0, none⟩ = some (.slice as0 s0.length ks0) := by rw [← hB]; exact Gr.keep (by repeat (first | exact Gr.refl _ | apply Gr.ext | apply Gr.alloc | apply Gr.drew)) (box_cell (A := w) rfl rfl)
    have ct1 : B.cell? ⟨w.heap.size + 1, 0, none⟩ = some (.slice at0 t0.length kt0) := by rw [← hB]; exact Gr.keep (by repeat (first | exact Gr.refl _ | apply Gr.ext | apply Gr.alloc | apply Gr.drew)) (box_cell (A := w.alloc (.cells #[.slice as0 s0.length ks0] 32)) (by simp) rfl)
    have vr1 : VRow B (w.heap.size + 1 + 1) 32 [.slice none 0 0] := by
      rw [← hB]
      exact (VRow.new (A := (w.alloc (.cells #[.slice as0 s0.length ks0] 32)).alloc (.cells #[.slice at0 t0.length kt0] 38)) (by simp)).gr (by repeat (first | exact Gr.refl _ | apply Gr.ext | apply Gr.alloc | apply Gr.drew))
    have sB : w.heap.size + 3 ≤ B.heap.size := by rw [← hB]; simp
    have HGB := Lib.hid gB
    have HCS1 := Lib.hid cs1
    have HCT1 := Lib.hid ct1
    have HVR1 := Lib.hid vr1
    have zcs1 := blk cs1
    have zct1 := blk ct1
    clear hB gB vr1
    go_wp2_with fail
    refine (l39Copy_any s0 _ (Rd.gr HS.out (HGB.out.trans (by repeat (first | exact Gr.refl _ | apply Gr.ext | apply Gr.alloc | apply Gr.drew)))) HL.out.1 HL.out.2).mono ?_
    rintro e W9 ⟨v9, F9, rfl, hO9, g9⟩
    obtain ⟨a9, c9, hform⟩ := hO9.form
    subst hform
    have HO9 := Lib.hid hO9
    have HF9 := Lib.hid (show ∀ b ∈ F9, w.heap.size + 3 ≤ b from fun b hb => by have := hO9.ge b hb; omega)
    have HG9 := Lib.hid (HGB.out.trans g9)
    have vr9 := HVR1.out.gr g9
    have r9 := vr9.box
    have zr9 := blk r9
    have fr9 := vr9.frozen 0
    have HVR9 := Lib.hid vr9
    clear hO9 g9 vr9
    go_wp2_with fail
    generalize hWF : W9.setCell ⟨w.heap.size + 1 + 1, 0, none⟩ (.slice a9 s0.length c9) = WF
    have vF : VRow WF (w.heap.size + 1 + 1) 32 [.slice a9 s0.length c9] := by rw [← hWF]; exact HVR9.out.set 0 _
    have gF : Gr w WF := by rw [← hWF]; exact Gr.setCell (p := ⟨w.heap.size + 1 + 1, 0, none⟩) HG9.out (by show _ ≤ w.heap.size + 1 + 1; omega) _
    have oF : OwnC B WF (.slice a9 s0.length c9) F9 s0 := by rw [← hWF]; exact HO9.out.wr ((Wr.refl [w.heap.size + 1 + 1] _).setCell (List.mem_singleton.2 rfl) _) (fun b hb hm => by have := HF9.out b hb; have h3 := List.mem_singleton.1 hm; omega)
    obtain ⟨fq, h1, h2, -⟩ := oF.read (by have := HL.out.1; unfold reachLen; omega)
    have h3 : Fresh w fq := h2.of_le (by omega)
    have r0' := vF.box
    clear hWF vF oF h2
    exact bodyPost_ret (v := .tuple #[.agg #[.slice a9 s0.length c9], .int .i64 (-1)]) (by simp [results, Try.results8, go_sem, r0']) rfl ⟨#[.slice a9 s0.length c9], fq, by rw [HN.out], by rw [HN.out]; exact rdStore_mk _ h1, h3, gF⟩
end Go.Proofs.Ytmfcagcanhmdbaa
