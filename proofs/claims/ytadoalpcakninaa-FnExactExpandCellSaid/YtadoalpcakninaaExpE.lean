/- ExpandCell of the reference. No condition. -/
import Derived.Test.YtadoalpcakninaaExpS
namespace Go.Proofs.Ytadoalpcakninaa
open Go.RowKit
set_option linter.unusedVariables false
set_option linter.unusedSimpArgs false

/-- A function hands back a tree in new memory, and whether there is one. -/
def FoundT (w : World) (o : Option (List GNode)) (e : Ending) (w' : World) : Prop :=
  ∃ es fq, e = .returned (.tuple #[.agg es, .bool o.isSome]) ∧ Rd.rd (α := GTree) fq w' es.toList (o.getD []) ∧ Fresh w fq ∧ Gr w w'

set_option maxRecDepth 100000 in
set_option maxHeartbeats 8000000 in
theorem specExpand_any {fs : List Nat} {cs : Array Value} (s : GStore) (a : Int) (first : Int) (w : World) (hs : Rd.rd fs w cs.toList s) (hl : wtStore s ≤ 1048576) :
    Calls Try.prog 8 #[.agg cs, .int .i64 a, .int .i64 first] w (FoundT w (expOf s a first)) := by
  have HWT := Lib.hid hl
  clear hl
  have HS := Lib.hid hs
  obtain ⟨s0, rfl⟩ : ∃ y, y = s := ⟨s, rfl⟩
  obtain ⟨vs0, fs0, rfl, hfps, hs0⟩ := rdStore_inv s0 hs
  have FPs := Lib.hid hfps
  clear hfps
  obtain ⟨as0, ks0, rfl, os01, os02, os03⟩ := hs0.open
  clear hs
  by_cases hv : ValidStore s0
  · by_cases hin : 0 ≤ a ∧ a ≤ (s0.length : Int) - 1
    · by_cases hfi : 1 ≤ first ∧ first ≤ 999
      · by_cases h16 : exL s0 s0.length a.toNat ≤ 16
        · have hok : ExpOk s0 a first := ⟨hv, hin, hfi, h16⟩
          have HNO := Lib.hid (expOf_yes hok)
          obtain ⟨n, rfl⟩ : ∃ n : Nat, a = n := ⟨a.toNat, by omega⟩
          rw [Int.toNat_natCast] at h16 HNO
          have H16 := Lib.hid h16
          have HV := Lib.hid hv
          have HI := Lib.hid hin
          have HFI := Lib.hid hfi
          clear hv hin hfi h16 hok
          go_enter Try.func8, Try.ntmps8
          go_wp2_with fail
          refine (specValid_any _ _ s0 _ (Rd.gr HS.out (by repeat (first | exact Gr.refl _ | apply Gr.ext | apply Gr.alloc | apply Gr.drew)))).mono ?_
          rintro e w' ⟨rfl, x1, rfl⟩
          rw [validB_true HV.out]
          go_wp2_with fail
          refine (l1In_yes _ _ _ _ HI.out.1 HI.out.2).mono ?_
          rintro e w' ⟨rfl, x2, rfl⟩
          go_wp2_with fail
          refine (l1In_yes _ _ _ _ HFI.out.1 HFI.out.2).mono ?_
          rintro e w' ⟨rfl, x3, rfl⟩
          go_wp2_with fail
          refine (l39Count_any s0 HV.out (cells_small HWT.out).1 s0.length n _ _ _ (Rd.gr HS.out (by repeat (first | exact Gr.refl _ | apply Gr.ext | apply Gr.alloc | apply Gr.drew))) (by have := HI.out.2; omega) (by have := HI.out.2; omega)).mono ?_
          rintro e w' ⟨c, rfl, ⟨x4, rfl⟩, -, hc, -, -⟩
          have hc2 : c ≤ 16 := by have := hc H16.out; have := H16.out; omega
          clear hc
          go_wp2_with fail
          generalize hC : ((((((w.alloc (.cells #[.slice as0 s0.length ks0] 33)).alloc (.cells #[.slice none 0 0] 28)).ext x1).ext x2).ext x3).ext x4) = C
          have gC : Gr w C := by rw [← hC]; exact (by repeat (first | exact Gr.refl _ | apply Gr.ext | apply Gr.alloc | apply Gr.drew))
          have vC : VRow C (w.heap.size + 1) 28 [.slice none 0 0] := by
            rw [← hC]
            repeat (first | ((with_reducible refine VRow.new ?_) <;> first | omega | (simp; done) | (simp; omega) | rfl) | (with_reducible refine VRow.gr ?_ (Gr.alloc (Gr.refl _) _)) | (with_reducible refine VRow.gr ?_ (Gr.ext (Gr.refl _) _)) | (with_reducible refine VRow.gr ?_ (Gr.drew (Gr.refl _))))
          have HGC := Lib.hid gC
          have HVC := Lib.hid vC
          have hcw : w.heap.size + 1 < C.heap.size := vC.lt
          clear hC gC vC
          refine (l39Expand_any s0 HV.out HWT.out s0.length n _ _ _ (Rd.gr HS.out HGC.out) (by have := HI.out.2; omega) (by have := HI.out.2; omega) H16.out).mono ?_
          rintro e W4 ⟨vt, ft, rfl, ht, g5⟩
          have hge := ht.ge
          have hlt := ht.lt
          obtain ⟨at4, ct4, hform⟩ := ht.form
          subst hform
          obtain ⟨NS, hNS⟩ : ∃ NS, NS = exN s0 s0.length n 0 (-1) 0 := ⟨_, rfl⟩
          have hnl : NS.length ≤ 16 := by rw [hNS, exN_len]; exact H16.out
          rw [← hNS] at ht ⊢
          have HNS := Lib.hid hNS
          have HT := Lib.hid ht
          have HGE := Lib.hid hge
          have HLT := Lib.hid hlt
          have HG5 := Lib.hid g5
          have hC4 := g5.size
          clear hNS ht hge hlt g5
          go_wp2_with fail
          generalize hB : W4.alloc (.cells #[.slice at4 NS.length ct4] 28) = B
          have gB : Gr W4 B := by rw [← hB]; exact (by repeat (first | exact Gr.refl _ | apply Gr.ext | apply Gr.alloc | apply Gr.drew))
          have vB : VRow B W4.heap.size 28 [.slice at4 NS.length ct4] := by rw [← hB]; exact VRow.new rfl
          have sB : B.heap.size = W4.heap.size + 1 := by rw [← hB]; simp
          have HGB := Lib.hid gB
          have HVB := Lib.hid vB
          clear hB gB vB
          go_loopw [9] (fun s9 wr => ∃ (i : Nat), i ≤ NS.length ∧ Gr w wr ∧ W4.heap.size < wr.heap.size ∧ Hid (VRow wr (w.heap.size + 1) 28 [.slice none 0 0]) ∧ Hid (VRow wr W4.heap.size 28 [.slice at4 NS.length ct4]) ∧ Hid (OwnT C wr (.slice at4 NS.length ct4) ft (idN first 0 (NS.take i) ++ NS.drop i)) ∧ s9 = .int .i64 i) (fun s9 _ => NS.length - (intOf s9).toNat)
          case atStart => exact ⟨0, by omega, HGC.out.trans (HG5.out.trans HGB.out), by omega, Lib.hid (HVC.out.gr (HG5.out.trans HGB.out)), HVB, Lib.hid (by simpa [idN] using HT.out.gr HGB.out), rfl⟩
          case round =>
            obtain ⟨i, hi, hg, hs4, HVR, HVT, HTT, rfl⟩ := hrel
            rename World => W6
            have HG := Lib.hid hg
            have y0 := HVT.out.box
            have zy0 := blk y0
            have HVR6 := HVR
            clear hg
            by_cases hlt : i < NS.length
            · have hst := idN_step first NS hlt
              obtain ⟨MS, hMS⟩ : ∃ MS, MS = idN first 0 (NS.take i) ++ NS.drop i := ⟨_, rfl⟩
              rw [← hMS] at HTT hst
              obtain ⟨him, hel⟩ := List.getElem?_eq_some_iff.1 hst.2
              obtain ⟨g, cap, vj, fpj, ev, hgl, hgw, hgF, hcell, hfz, -, -, -, -, -, hset⟩ := HTT.out.at him
              have e1 : NS.length = MS.length := by injection ev
              injection ev with ev1 ev2 ev3
              subst ev1
              rw [hel] at hset hcell
              have c0 := hcell 0 _ rfl
              have f0 := hfz (i * 6)
              rw [Nat.add_zero] at c0
              have zc0 := blk c0
              have hfi := HFI.out
              have b1 := hfi.1
              have b2 := hfi.2
              have iw : IntKind.i64.wrap (first + (i : Int)) = first + (i : Int) := IntWalk.i64_in _ (by omega)
              have hT2 := hset (first + (i : Int)) (wf_of (by omega) (by omega))
              rw [hst.1] at hT2
              have HT2 := Lib.hid hT2
              have hg1 := HGE.out g hgF
              have hg2 := HLT.out g hgF
              have w0' : (0 : Int) ≤ (i : Int) := by omega
              have w1' : (i : Int) < (NS.length : Int) := by omega
              clear hst hMS him hel hgF hcell hfz ev2 ev3 hset hfi hT2 HTT
              go_wp2_with fail
              trace_state
              refine ⟨⟨i + 1, by omega, HG.out.setCell (p := ⟨g, i * 6, none⟩) (by have := HGC.out.size; simp; omega) _, by rw [size_setCell']; exact hs4, Lib.hid (HVR.out.ne (by omega)), Lib.hid (HVT.out.ne (by omega)), HT2, by go_num⟩, by simp [intOf]; omega⟩
            · have hi2 : i = NS.length := by omega
              subst hi2
              have fx0 := HVR.out.frozen 0
              have x0 := HVR.out.box
              have zx0 := blk x0
              rw [List.take_length, List.drop_length, List.append_nil] at HTT
              go_wp2_with fail
              generalize hF : W6.setCell ⟨w.heap.size + 1, 0, none⟩ (.slice at4 NS.length ct4) = WF
              have vF : VRow WF (w.heap.size + 1) 28 [.slice at4 NS.length ct4] := by rw [← hF]; exact HVR.out.set 0 _
              have tF : OwnT C WF (.slice at4 NS.length ct4) ft (idN first 0 NS) := by
                rw [← hF]
                refine HTT.out.wr ((Wr.refl [w.heap.size + 1] _).setCell (by simp) _) (fun b hb hm => ?_)
                have h1 := HGE.out b hb
                simp at hm
                omega
              have gF : Gr w WF := by rw [← hF]; exact HG.out.setCell (p := ⟨w.heap.size + 1, 0, none⟩) (by simp) _
              have r0' := vF.box
              obtain ⟨fq, h1, h2, -⟩ := tF.read (by rw [idN_len]; unfold reachLen; omega) (fun x hx => by
                have h1 := kids_idN (M := 1048576) (first := first) (j := 0) (xs := NS) (fun x hx => by rw [HNS.out] at hx; exact (exN_small s0 (cells_small HWT.out).2 s0.length n 0 (-1) 0 x hx).2.1) x hx
                unfold reachLen
                omega)
              have h3 := h2.of_le HGC.out.size
              clear hF vF tF h2
              exact bodyPost_ret (v := .tuple #[.agg #[.slice at4 NS.length ct4], .bool true]) (by simp [results, Try.results8, go_sem, r0']) rfl ⟨#[.slice at4 NS.length ct4], fq, by rw [HNO.out]; rfl, by rw [HNO.out, ← HNS.out]; exact ⟨_, rfl, h1⟩, h3, gF⟩
        · have hno : ¬ ExpOk s0 a first := fun h => h16 h.2.2.2
          obtain ⟨n, rfl⟩ : ∃ n : Nat, a = n := ⟨a.toNat, by omega⟩
          rw [Int.toNat_natCast] at h16
          have H16 := Lib.hid h16
          have HV := Lib.hid hv
          have HI := Lib.hid hin
          have HFI := Lib.hid hfi
          clear hv hin hfi h16
          have HNO := Lib.hid (expOf_no hno)
          clear hno
          go_enter Try.func8, Try.ntmps8
          go_wp2_with fail
          refine (specValid_any _ _ s0 _ (Rd.gr HS.out (by repeat (first | exact Gr.refl _ | apply Gr.ext | apply Gr.alloc | apply Gr.drew)))).mono ?_
          rintro e w' ⟨rfl, x1, rfl⟩
          rw [validB_true HV.out]
          go_wp2_with fail
          refine (l1In_yes _ _ _ _ HI.out.1 HI.out.2).mono ?_
          rintro e w' ⟨rfl, x2, rfl⟩
          go_wp2_with fail
          refine (l1In_yes _ _ _ _ HFI.out.1 HFI.out.2).mono ?_
          rintro e w' ⟨rfl, x3, rfl⟩
          go_wp2_with fail
          refine (l39Count_any s0 HV.out (cells_small HWT.out).1 s0.length n _ _ _ (Rd.gr HS.out (by repeat (first | exact Gr.refl _ | apply Gr.ext | apply Gr.alloc | apply Gr.drew))) (by have := HI.out.2; omega) (by have := HI.out.2; omega)).mono ?_
          rintro e w' ⟨c, rfl, ⟨x4, rfl⟩, -, -, hc, -⟩
          have hc2 := hc (by have := H16.out; omega)
          clear hc
          go_wp2_with fail
          have r0' : ((((((w.alloc (.cells #[.slice as0 s0.length ks0] 33)).alloc (.cells #[.slice none 0 0] 28)).ext x1).ext x2).ext x3).ext x4).cell? ⟨w.heap.size + 1, 0, none⟩ = some (.slice none 0 0) := by repeat (first | ((with_reducible refine box_cell ?_ ?_) <;> first | omega | (simp; done) | (simp; omega) | rfl) | (with_reducible refine Gr.keep (Gr.alloc (Gr.refl _) _) ?_) | (with_reducible refine Gr.keep (Gr.ext (Gr.refl _) _) ?_) | (with_reducible refine Gr.keep (Gr.drew (Gr.refl _)) ?_))
          exact bodyPost_ret (v := .tuple #[.agg #[.slice none 0 0], .bool false]) (by simp [results, Try.results8, go_sem, r0']) rfl ⟨#[.slice none 0 0], [], by rw [HNO.out]; rfl, by rw [HNO.out]; exact ⟨_, rfl, SlR.nil _⟩, Fresh.nil _, (by repeat (first | exact Gr.refl _ | apply Gr.ext | apply Gr.alloc | apply Gr.drew))⟩
      · have hno : ¬ ExpOk s0 a first := fun h => hfi h.2.2.1
        have HV := Lib.hid hv
        have HI := Lib.hid hin
        have HFI := Lib.hid (show first < 1 ∨ 999 < first by omega)
        clear hv hin hfi
        have HNO := Lib.hid (expOf_no hno)
        clear hno
        go_enter Try.func8, Try.ntmps8
        go_wp2_with fail
        refine (specValid_any _ _ s0 _ (Rd.gr HS.out (by repeat (first | exact Gr.refl _ | apply Gr.ext | apply Gr.alloc | apply Gr.drew)))).mono ?_
        rintro e w' ⟨rfl, x1, rfl⟩
        rw [validB_true HV.out]
        go_wp2_with fail
        refine (l1In_yes _ _ _ _ HI.out.1 HI.out.2).mono ?_
        rintro e w' ⟨rfl, x2, rfl⟩
        go_wp2_with fail
        refine (l1In_no _ _ _ _ HFI.out).mono ?_
        rintro e w' ⟨rfl, x3, rfl⟩
        go_wp2_with fail
        have r0' : (((w.alloc (.cells #[.slice as0 s0.length ks0] 33)).alloc (.cells #[.slice none 0 0] 28)).ext x1).cell? ⟨w.heap.size + 1, 0, none⟩ = some (.slice none 0 0) := by repeat (first | ((with_reducible refine box_cell ?_ ?_) <;> first | omega | (simp; done) | (simp; omega) | rfl) | (with_reducible refine Gr.keep (Gr.alloc (Gr.refl _) _) ?_) | (with_reducible refine Gr.keep (Gr.ext (Gr.refl _) _) ?_) | (with_reducible refine Gr.keep (Gr.drew (Gr.refl _)) ?_))
        exact bodyPost_ret (v := .tuple #[.agg #[.slice none 0 0], .bool false]) (by simp [results, Try.results8, go_sem, r0']) rfl ⟨#[.slice none 0 0], [], by rw [HNO.out]; rfl, by rw [HNO.out]; exact ⟨_, rfl, SlR.nil _⟩, Fresh.nil _, (by repeat (first | exact Gr.refl _ | apply Gr.ext | apply Gr.alloc | apply Gr.drew))⟩
    · have hno : ¬ ExpOk s0 a first := fun h => hin h.2.1
      have HV := Lib.hid hv
      have HI := Lib.hid (show a < 0 ∨ (s0.length : Int) - 1 < a by omega)
      clear hv hin
      have HNO := Lib.hid (expOf_no hno)
      clear hno
      go_enter Try.func8, Try.ntmps8
      go_wp2_with fail
      refine (specValid_any _ _ s0 _ (Rd.gr HS.out (by repeat (first | exact Gr.refl _ | apply Gr.ext | apply Gr.alloc | apply Gr.drew)))).mono ?_
      rintro e w' ⟨rfl, x1, rfl⟩
      rw [validB_true HV.out]
      go_wp2_with fail
      refine (l1In_no _ _ _ _ HI.out).mono ?_
      rintro e w' ⟨rfl, x2, rfl⟩
      go_wp2_with fail
      have r0' : (((w.alloc (.cells #[.slice as0 s0.length ks0] 33)).alloc (.cells #[.slice none 0 0] 28)).ext x1).cell? ⟨w.heap.size + 1, 0, none⟩ = some (.slice none 0 0) := by repeat (first | ((with_reducible refine box_cell ?_ ?_) <;> first | omega | (simp; done) | (simp; omega) | rfl) | (with_reducible refine Gr.keep (Gr.alloc (Gr.refl _) _) ?_) | (with_reducible refine Gr.keep (Gr.ext (Gr.refl _) _) ?_) | (with_reducible refine Gr.keep (Gr.drew (Gr.refl _)) ?_))
      exact bodyPost_ret (v := .tuple #[.agg #[.slice none 0 0], .bool false]) (by simp [results, Try.results8, go_sem, r0']) rfl ⟨#[.slice none 0 0], [], by rw [HNO.out]; rfl, by rw [HNO.out]; exact ⟨_, rfl, SlR.nil _⟩, Fresh.nil _, (by repeat (first | exact Gr.refl _ | apply Gr.ext | apply Gr.alloc | apply Gr.drew))⟩
  · have hno : ¬ ExpOk s0 a first := fun h => hv h.1
    have HV := Lib.hid hv
    clear hv
    have HNO := Lib.hid (expOf_no hno)
    clear hno
    go_enter Try.func8, Try.ntmps8
    go_wp2_with fail
    refine (specValid_any _ _ s0 _ (Rd.gr HS.out (by repeat (first | exact Gr.refl _ | apply Gr.ext | apply Gr.alloc | apply Gr.drew)))).mono ?_
    rintro e w' ⟨rfl, x1, rfl⟩
    rw [validB_false HV.out]
    go_wp2_with fail
    have r0' : (((w.alloc (.cells #[.slice as0 s0.length ks0] 33)).alloc (.cells #[.slice none 0 0] 28)).ext x1).cell? ⟨w.heap.size + 1, 0, none⟩ = some (.slice none 0 0) := by repeat (first | ((with_reducible refine box_cell ?_ ?_) <;> first | omega | (simp; done) | (simp; omega) | rfl) | (with_reducible refine Gr.keep (Gr.alloc (Gr.refl _) _) ?_) | (with_reducible refine Gr.keep (Gr.ext (Gr.refl _) _) ?_) | (with_reducible refine Gr.keep (Gr.drew (Gr.refl _)) ?_))
    exact bodyPost_ret (v := .tuple #[.agg #[.slice none 0 0], .bool false]) (by simp [results, Try.results8, go_sem, r0']) rfl ⟨#[.slice none 0 0], [], by rw [HNO.out]; rfl, by rw [HNO.out]; exact ⟨_, rfl, SlR.nil _⟩, Fresh.nil _, (by repeat (first | exact Gr.refl _ | apply Gr.ext | apply Gr.alloc | apply Gr.drew))⟩
end Go.Proofs.Ytadoalpcakninaa
