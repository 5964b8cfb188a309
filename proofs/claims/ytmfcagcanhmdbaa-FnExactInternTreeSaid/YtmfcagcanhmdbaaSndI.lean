/- Whether all nodes of a subtree have their children behind them: the program's. No condition. -/
import Derived.Test.YtmfcagcanhmdbaaItnQ
import Derived.Test.YtmfcagcanhmdbaaIsNd
import Derived.Test.YtmfcagcanhmdbaaOwnN
namespace Go.Proofs.Ytmfcagcanhmdbaa
open Go.RowKit
set_option linter.unusedVariables false
set_option linter.unusedSimpArgs false

theorem Try.infoBool2 : (Try.prog.info? 4).map (fun i => (i.zero, i.size, i.bytes)) = some (some (.bool false), 1, 1) := by kernel_rfl
theorem goodB_true {t : List GNode} {i : Nat} (h : GoodT t i) : goodB t i = true := by unfold goodB; exact @decide_eq_true _ (Classical.propDecidable _) h
theorem goodB_false {t : List GNode} {i : Nat} (h : ¬ GoodT t i) : goodB t i = false := by unfold goodB; exact @decide_eq_false _ (Classical.propDecidable _) h

set_option maxRecDepth 10000 in
set_option maxHeartbeats 8000000 in
theorem sound_any {ft : List Nat} {ct : Array Value} (t : List GNode) (i : Nat) (hi : i < t.length) (hlen : t.length ≤ 1048576) (w : World) (ht : Rd.rd ft w ct.toList t) :
    Calls Try.prog 38 #[.agg ct, .int .i64 (i : Int)] w fun e w' => e = .returned (.bool (goodB t i)) ∧ Gr w w' := by
  obtain ⟨b0, hbi, hz0, hz1, hz2⟩ := info_parts Try.infoBool2
  have hmk := fun (W : World) => run_make (P := Try.prog) W 92 4 b0 (.bool false) Try.underlying92 hbi hz0 .i64 .i64 t.length t.length (by omega) (by omega) (by rw [hz2]; omega) (by omega)
  rw [hz1] at hmk
  clear hbi hz0 hz1 hz2
  simp only [Int.toNat_natCast, Nat.mul_one] at hmk
  have HB0 := Lib.hid (fun W : World => BRow.made W t.length 4)
  have hci : (Value.bool false).cells = #[.bool false] := rfl
  rw [hci] at hmk
  have hms : (madeCells #[Value.bool false] t.length).size = t.length := by simpa using size_madeCells #[Value.bool false] t.length
  generalize madeCells #[Value.bool false] t.length = C0 at hmk HB0 hms
  clear hci
  have y0 : i < C0.size := by omega
  have HMS := Lib.hid hms
  clear hms
  have HT := Lib.hid ht
  obtain ⟨t0, rfl⟩ : ∃ y, y = t := ⟨t, rfl⟩
  obtain ⟨vt0, ft0, rfl, hfpt, ht0⟩ := rdTree_inv t0 ht
  have FPt := Lib.hid hfpt
  clear hfpt
  obtain ⟨at0, kt0, rfl, ot01, ot02, ot03⟩ := ht0.open
  clear ht
  have i0 : (0 : Int) ≤ (i : Int) := by omega
  have i1 : (i : Int) < (t0.length : Int) := by omega
  have HI := Lib.hid hi
  go_enter Try.func38, Try.ntmps38
  go_wp2_with fail
  generalize hW1 : (w.alloc (.cells #[.slice at0 t0.length kt0] 38)).alloc (.cells (C0.setIfInBounds i (.bool true)) 4) = W1
  have g1 : Gr w W1 := by rw [← hW1]; exact (by repeat (first | exact Gr.refl _ | apply Gr.ext | apply Gr.alloc | apply Gr.drew))
  have c1 : W1.cell? ⟨w.heap.size, 0, none⟩ = some (.slice at0 t0.length kt0) := by rw [← hW1]; exact Gr.keep (Gr.alloc (Gr.refl _) _) (box_cell rfl rfl)
  have hC0 : C0 = ((List.replicate t0.length false).map Value.bool).toArray := by
    have h1 := HB0.out w
    have h2 : (w.alloc (.cells C0 4)).heap[w.heap.size]? = _ := h1
    rw [heap_alloc_new] at h2
    simpa using h2
  have v1 : BRow W1 (w.heap.size + 1) 4 ((List.replicate t0.length false).set i true) := by
    rw [← hW1, hC0]
    have h1 := heap_alloc_new (w.alloc (.cells #[.slice at0 t0.length kt0] 38)) (.cells ((((List.replicate t0.length false).map Value.bool).toArray).setIfInBounds i (.bool true)) 4 (0, 0))
    rw [show (w.alloc (.cells #[.slice at0 t0.length kt0] 38)).heap.size = w.heap.size + 1 by simp] at h1
    unfold BRow
    rw [h1, List.map_set, List.setIfInBounds_toArray]
  have s1 : W1.heap.size = w.heap.size + 2 := by rw [← hW1]; simp
  have HG1 := Lib.hid g1
  have HC1 := Lib.hid c1
  have HV1 := Lib.hid v1
  have HF0 := Lib.hid (FL.start hi)
  clear hW1 hC0 g1 c1 v1 hmk HB0 y0
  go_loopw [6] (fun s6 wr => ∃ (k : Nat) (fl : List Bool), i ≤ k ∧ k ≤ t0.length ∧ Hid (Wr [w.heap.size + 1] W1 wr) ∧ Hid (BRow wr (w.heap.size + 1) 4 fl) ∧ Hid (FL t0 i k 0 fl) ∧ Hid (∀ m, m < k → Up t0 i m → KG t0 m) ∧ s6 = .int .i64 k) (fun s6 _ => t0.length - (intOf s6).toNat)
  case atStart => exact ⟨i, _, by omega, by omega, Lib.hid (Wr.refl _ _), HV1, HF0, Lib.hid (fun m hm hu => by have := hu.ge; omega), rfl⟩
  case round =>
    obtain ⟨k, fl, hik, hk, HW, HV, HFL, HK, rfl⟩ := hrel
    rename World => W2
    have b0 := HW.out.keepC HC1.out (by simp)
    have zb0 := blk b0
    have hfl : fl.length = t0.length := HFL.out.1
    have k0 : (0 : Int) ≤ (k : Int) := by omega
    by_cases hlt : k < t0.length
    · have k1 : (k : Int) < (t0.length : Int) := by omega
      have v2 := HV.out.cell (k := k) (by omega)
      have zv2 := blk v2
      have HFLL := Lib.hid hfl
      by_cases hm : fl[k]'(by omega) = true
      · have hup : Up t0 i k := (HFL.out.at hlt).1 (by rw [List.getElem?_eq_getElem (by omega), hm])
        rw [hm] at v2
        have HUP := Lib.hid hup
        clear hm hup hfl
        obtain ⟨b, off, rfl, hbb⟩ := ot03 k hlt
        obtain ⟨csq, feq, hcq, hrq, -⟩ := ht0.at hlt
        obtain ⟨yq, hyq⟩ : ∃ y, y = t0[k] := ⟨_, rfl⟩
        rw [← hyq] at hrq
        have HYq := Lib.hid hyq
        have HRq := Lib.hid hrq
        obtain ⟨q0, q1, q2, q3, q4, q5⟩ := yq
        obtain ⟨vq5, fq5, hcsq, -, hq0, hq1, hq2, hq3, hq4, hq5⟩ := rdNode_inv (cs := csq.toArray) q0 q1 q2 q3 q4 q5 (by simpa using hrq)
        obtain rfl : csq = [.int .i64 q0, .int .i64 q1, .int .i64 q2, .int .i64 q3, .string q4, vq5] := by have := congrArg Array.toList hcsq; simpa using this
        obtain ⟨aq5, kq5, rfl, oq51, oq52, oq53⟩ := hq5.open
        have qz0 : w.cell? ⟨b, off + k * 6, none⟩ = some (.int .i64 q0) := by simpa [Rd.n] using hcq 0 _ rfl
        have qz1 : w.cell? ⟨b, off + k * 6 + 1, none⟩ = some (.int .i64 q1) := hcq 1 _ rfl
        have qz2 : w.cell? ⟨b, off + k * 6 + 2, none⟩ = some (.int .i64 q2) := hcq 2 _ rfl
        have qz3 : w.cell? ⟨b, off + k * 6 + 3, none⟩ = some (.int .i64 q3) := hcq 3 _ rfl
        have qz4 : w.cell? ⟨b, off + k * 6 + 4, none⟩ = some (.string q4) := hcq 4 _ rfl
        have qz5 : w.cell? ⟨b, off + k * 6 + 5, none⟩ = some (.slice aq5 q5.length kq5) := hcq 5 _ rfl
        have qzb := blk qz0
        clear hcsq hcq hrq hyq
        have d5 := HW.out.keepC (HG1.out.keep qz5) (by simp; omega)
        have zd5 := blk d5
        clear qz0 qz1 qz2 qz3 qz4 qz5
        have iw : IntKind.i64.wrap ((k : Int) + 1) = (k : Int) + 1 := IntWalk.i64_in _ (by omega)
        have hkn : kidsN t0[k] = q5 := by rw [← HYq.out]; rfl
        have HKN := Lib.hid hkn
        clear hkn
        go_wp2_with fail
        go_loopw [36] (fun s36 wr => ∃ (c : Nat) (fl : List Bool), c ≤ q5.length ∧ Hid (Wr [w.heap.size + 1] W1 wr) ∧ Hid (BRow wr (w.heap.size + 1) 4 fl) ∧ Hid (FL t0 i k c fl) ∧ Hid (∀ j (h : j < q5.length), j < c → (k : Int) + 1 ≤ q5[j] ∧ q5[j] ≤ (t0.length : Int) - 1) ∧ s36 = .int .i64 c) (fun s36 _ => q5.length - (intOf s36).toNat)
        case atStart => exact ⟨0, fl, by omega, HW, HV, HFL, Lib.hid (fun j _ h => by omega), rfl⟩
        case round =>
          obtain ⟨c, fl3, hc, HW3, HV3, HFL3, HB3, rfl⟩ := hrel
          rename World => W3
          have e0 := HW3.out.keepC HC1.out (by simp)
          have ze0 := blk e0
          have c0 : (0 : Int) ≤ (c : Int) := by omega
          clear b0 zb0 v2 zv2 d5 zd5
          by_cases hlc : c < q5.length
          · have c1 : (c : Int) < (q5.length : Int) := by omega
            obtain ⟨bL, oL, rfl, hbL⟩ := oq53 c hlc
            have eL := HW3.out.keepC (HG1.out.keep (hq5.int_at hlc).1) (by simp; omega)
            have zeL := blk eL
            have iwc : IntKind.i64.wrap ((c : Int) + 1) = (c : Int) + 1 := IntWalk.i64_in _ (by omega)
            have hrt : Rd.rd ft W3 [.slice (some ⟨b, off, none⟩) t0.length kt0] t0 := Rd.wr (Rd.gr HT.out HG1.out) HW3.out (fun x hx hm => by have := Rd.lt HT.out x hx; simp at hm; omega)
            have HRT := Lib.hid hrt
            clear hrt
            by_cases hck : q5[c] ≤ (k : Int)
            · have HCK := Lib.hid hck
              go_wp2_with fail
              go_ret
              refine ⟨ret_bool (goodB_false fun hg => ?_).symm, Gr.wr HG1.out HW3.out (fun b hb => by simp at hb; omega)⟩
              have := (hg k HUP.out hlt q5[c] (by rw [HKN.out]; exact List.getElem_mem hlc)).1
              have := HCK.out
              omega
            · by_cases hcn : q5[c] ≤ (t0.length : Int) - 1
              · obtain ⟨m, hm⟩ : ∃ m : Nat, q5[c] = m := ⟨q5[c].toNat, by omega⟩
                rw [hm] at eL hck hcn
                have HM := Lib.hid hm
                have hml : m < t0.length := by omega
                have m0 : (0 : Int) ≤ (m : Int) := by omega
                have m1 : (m : Int) < (t0.length : Int) := by omega
                have HCK := Lib.hid (And.intro hck hcn)
                clear hm
                have e5 := HV3.out.cell (k := m) (by have := HFL3.out.1; omega)
                have ze5 := blk e5
                have fz5 := HV3.out.frozen m
                go_wp2_with fail
                refine (nodeIn_yes t0 _ _ HRT.out m0 (by have := HCK.out; omega)).mono ?_
                rintro e w' ⟨rfl, x4, rfl⟩
                go_wp2_with fail
                refine ⟨⟨c + 1, fl3.set m true, by omega, Lib.hid ?_, Lib.hid ?_, Lib.hid ?_, Lib.hid ?_, by go_num⟩, by simp [intOf]; omega⟩
                · exact (HW3.out.setCell (List.mem_singleton.2 rfl) _).gr (by repeat (first | exact Gr.refl _ | apply Gr.ext | apply Gr.alloc | apply Gr.drew))
                · exact (HV3.out.set m true).gr (by repeat (first | exact Gr.refl _ | apply Gr.ext | apply Gr.alloc | apply Gr.drew))
                · exact FL.set HFL3.out hlt (by rw [HKN.out]; exact hlc) (by have := HM.out; simp only [HKN.out]; exact this) hml
                · intro j h hj
                  by_cases e : j < c
                  · exact HB3.out j h e
                  · obtain rfl : j = c := by omega
                    have h1 := HM.out
                    have h2 := HCK.out
                    omega
              · have HCN := Lib.hid hcn
                go_wp2_with fail
                refine (nodeIn_no t0 _ _ HRT.out (.inr (by omega))).mono ?_
                rintro e w' ⟨rfl, x4, rfl⟩
                go_wp2_with fail
                go_ret
                refine ⟨ret_bool (goodB_false fun hg => ?_).symm, (Gr.wr HG1.out HW3.out (fun b hb => by simp at hb; omega)).trans (by repeat (first | exact Gr.refl _ | apply Gr.ext | apply Gr.alloc | apply Gr.drew))⟩
                have := (hg k HUP.out hlt q5[c] (by rw [HKN.out]; exact List.getElem_mem hlc)).2
                have := HCN.out
                omega
          · obtain rfl : c = q5.length := by omega
            go_wp2_with fail
            refine ⟨⟨k + 1, fl3, by omega, by omega, HW3, HV3, Lib.hid ?_, Lib.hid ?_, by go_num⟩, by simp [intOf]; omega⟩
            · exact FL.next hlt (by rw [HKN.out]; exact HFL3.out) HUP.out
            · intro m hm hu
              by_cases e : m < k
              · exact HK.out m e hu
              · obtain rfl : m = k := by omega
                intro h x hx
                rw [HKN.out] at hx
                obtain ⟨j, hj, rfl⟩ := List.mem_iff_getElem.1 hx
                exact HB3.out j hj hj
      · have hnup : ¬ Up t0 i k := fun hu => hm (by
          have := (HFL.out.at hlt).2 hu
          rw [List.getElem?_eq_getElem (by omega)] at this
          exact Option.some.inj this)
        have hmf : fl[k]'(by omega) = false := by simpa using hm
        rw [hmf] at v2
        have HNU := Lib.hid hnup
        clear hm hmf hnup
        have iw : IntKind.i64.wrap ((k : Int) + 1) = (k : Int) + 1 := IntWalk.i64_in _ (by omega)
        go_wp2_with fail
        refine ⟨⟨k + 1, fl, by omega, by omega, HW, HV, Lib.hid (HFL.out.skip HNU.out), Lib.hid (fun m hm hu => ?_), by go_num⟩, by simp [intOf]; omega⟩
        by_cases e : m < k
        · exact HK.out m e hu
        · obtain rfl : m = k := by omega
          exact absurd hu HNU.out
    · go_wp2_with fail
      go_ret
      refine ⟨ret_bool (goodB_true fun j hu => ?_).symm, Gr.wr HG1.out HW.out (fun b hb => by simp at hb; omega)⟩
      by_cases hj : j < k
      · exact HK.out j hj hu
      · intro h
        omega
end Go.Proofs.Ytmfcagcanhmdbaa
