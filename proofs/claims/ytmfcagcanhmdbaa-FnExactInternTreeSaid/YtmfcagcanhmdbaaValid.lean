/- IsValidStore of the program. No condition. -/
import Derived.Test.YtmfcagcanhmdbaaValidA
namespace Go.Proofs.Ytmfcagcanhmdbaa
open Go.RowKit

set_option maxHeartbeats 2000000 in
theorem implValid_any (fp : List Nat) (cs : Array Value) (xs : List GCell) (w : World) (hx : Rd.rd fp w cs.toList xs) :
    Calls Try.prog 22 #[.agg cs] w fun e w' => e = .returned (.bool (validB xs)) ∧ Gr w w' := by
  have hrx := hx
  obtain ⟨v, f, rfl, -, hu⟩ := rdStore_inv xs hx
  obtain ⟨a, ca, rfl, h1, h2, h3⟩ := hu.open
  clear hx
  go_enter Try.func22, Try.ntmps22
  go_wp2
  go_loopw [8, 3, 4] (fun s8 s3 s4 wr => ∃ k : Nat, k ≤ xs.length ∧ (∀ i (h : i < xs.length), i < k → (∀ j (hj : j < xs.length), j < i → xs[j] ≠ xs[i]) ∧ ∀ c ∈ xs[i].2.2, 0 ≤ c ∧ c ≤ (i : Int) - 1) ∧ (∃ x, wr = (w.alloc (.cells #[.slice a xs.length ca] 32)).ext x) ∧ s8 = .int .i64 k) (fun s8 s3 s4 _ => xs.length - (intOf s8).toNat)
  case atStart => exact ⟨0, by omega, by omega, ⟨⟨#[], 0⟩, (ext_zero _).symm⟩, rfl⟩
  case round =>
    obtain ⟨k, hk, ht, ⟨x, rfl⟩, rfl⟩ := hrel
    have hT := Lib.hid ht
    clear ht
    by_cases hlt : k < xs.length
    · obtain ⟨b, off, rfl, hb⟩ := h3 k hlt
      obtain ⟨csq, feq, hcq, hrq, -⟩ := hu.at hlt
      have hrdq := hrq
      generalize hyq : xs[k] = yq at hrq
      obtain ⟨q0, q1, q2⟩ := yq
      obtain ⟨vq2, fq2, hcsq, -, hq0, hq1, hq2⟩ := rdCell_inv (cs := csq.toArray) q0 q1 q2 (by simpa using hrq)
      obtain rfl : csq = [.string q0, .int .i64 q1, vq2] := by have := congrArg Array.toList hcsq; simpa using this
      have z0 : w.cell? ⟨b, off + k * 3, none⟩ = some (.string q0) := by simpa [Rd.n] using hcq 0 _ rfl
      have z1 : w.cell? ⟨b, off + k * 3 + 1, none⟩ = some (.int .i64 q1) := hcq 1 _ rfl
      have z2 : w.cell? ⟨b, off + k * 3 + 2, none⟩ = some vq2 := hcq 2 _ rfl
      obtain ⟨aq, cq, rfl, k1, k2, k3⟩ := hq2.open
      have HY := Lib.hid hyq
      obtain ⟨ft, htk⟩ := hu.takeK hk
      clear h3 hcsq hcq hrq hyq k3
      go_wp2_with fail
      generalize hW : ((((w.alloc (Obj.cells #[Value.slice (some ⟨b, off, none⟩) xs.length ca] 32)).ext x).alloc (Obj.cells #[Value.int IntKind.i64 k] 3)).alloc (Obj.cells #[Value.string q0, Value.int IntKind.i64 q1, Value.slice aq q2.length cq] 78)) = W
      have gW : Gr w W := by rw [← hW]; exact (by repeat (first | exact Gr.refl _ | apply Gr.ext | apply Gr.alloc | apply Gr.drew))
      have gS : Gr (w.alloc (Obj.cells #[Value.slice (some ⟨b, off, none⟩) xs.length ca] 32)) W := by rw [← hW]; exact (by repeat (first | exact Gr.refl _ | apply Gr.ext | apply Gr.alloc | apply Gr.drew))
      have gI : Gr (((w.alloc (Obj.cells #[Value.slice (some ⟨b, off, none⟩) xs.length ca] 32)).ext x).alloc (Obj.cells #[Value.int IntKind.i64 k] 3)) W := by rw [← hW]; exact (by repeat (first | exact Gr.refl _ | apply Gr.ext | apply Gr.alloc | apply Gr.drew))
      have gC : Gr ((((w.alloc (Obj.cells #[Value.slice (some ⟨b, off, none⟩) xs.length ca] 32)).ext x).alloc (Obj.cells #[Value.int IntKind.i64 k] 3)).alloc (Obj.cells #[Value.string q0, Value.int IntKind.i64 q1, Value.slice aq q2.length cq] 78)) W := by rw [← hW]; exact (by repeat (first | exact Gr.refl _ | apply Gr.ext | apply Gr.alloc | apply Gr.drew))
      have l0 : ∀ w' : World, Gr W w' → w'.cell? ⟨w.heap.size, 0, none⟩ = some (.slice (some ⟨b, off, none⟩) xs.length ca) := fun w' hg => (gS.trans hg).keep (box_cell rfl rfl)
      have m0 : ∀ w' : World, Gr W w' → w'.cell? ⟨w.heap.size + 1 + x.objs.size, 0, none⟩ = some (.int .i64 k) := fun w' hg => (gI.trans hg).keep (box_cell (by simp) rfl)
      have n0 : ∀ w' : World, Gr W w' → w'.cell? ⟨w.heap.size + 1 + x.objs.size + 1, 0, none⟩ = some (.string q0) := fun w' hg => (gC.trans hg).keep (box_cell (by simp) rfl)
      have n1 : ∀ w' : World, Gr W w' → w'.cell? ⟨w.heap.size + 1 + x.objs.size + 1, 1, none⟩ = some (.int .i64 q1) := fun w' hg => (gC.trans hg).keep (box_cell (by simp) rfl)
      have n2 : ∀ w' : World, Gr W w' → w'.cell? ⟨w.heap.size + 1 + x.objs.size + 1, 2, none⟩ = some (.slice aq q2.length cq) := fun w' hg => (gC.trans hg).keep (box_cell (by simp) rfl)
      clear hW
      have hTI : ∀ w' : World, Gr W w' → TestI w' 62 #[.pointer (some ⟨w.heap.size + 1 + x.objs.size, 0, none⟩)] (outOf k) q2 := fun w' hg =>
        ⟨Try.call62, fun y _ z => childTest_any y k _ _ (by omega) (m0 _ (Gr.ext hg _))⟩
      have HTI := Lib.hid hTI
      clear hTI
      have b1 : (0 : Int) ≤ (k : Int) := by omega
      have b2 : (k : Int) ≤ (ca : Int) := by omega
      have b3 : k ≤ ca := by omega
      have l0' := l0 W (Gr.refl W)
      have m0' := m0 W (Gr.refl W)
      have n0' := n0 W (Gr.refl W)
      have n1' := n1 W (Gr.refl W)
      have n2' := n2 W (Gr.refl W)
      have s0 := blk l0'
      have s1 := blk m0'
      have s2 := blk n0'
      have gX := gS
      clear l0 m0 n0 n1 n2 gS gI gC
      by_cases hfound : 0 ≤ idxOf (fun z => decide (z = xs[k])) (xs.take k)
      · have HF := Lib.hid hfound
        have HD : decide (0 ≤ idxOf (fun z => decide (z = xs[k])) (xs.take k)) = true := decide_eq_true hfound
        clear hfound
        go_wp2_with fail
        refine wp_region_grown (by kernel_rfl) (by kernel_rfl) ?_
        repeat (go_big_quiet_step (first
          | (go_at_call 60; refine grown_call (cellIndex_any _ _ _ _ (xs.take k) xs[k] _ (htk.gr ?_) (Rd.gr hrdq ?_)) <;> exact Gr.ext gW _)
          | (go_at_call 61; refine grown_call (slicesContainsFuncI_any _ _ q2 _ _ _ _ (hq2.gr ?_) (HTI.out _ ?_)) <;> first | exact Gr.ext gW _ | exact Gr.ext (Gr.refl _) _)))
        refine wpQuiet_nil ?_
        intro _ hw'
        obtain ⟨nx, hw''⟩ := hw'
        subst hw''
        go_wp2_with fail
        go_ret
        exact ⟨ret_bool (validB_false fun hv => (any_take_iff hlt).1 HF.out (hv k hlt).1).symm, by exact gW.trans (by repeat (first | exact Gr.refl _ | apply Gr.ext | apply Gr.alloc | apply Gr.drew))⟩
      · have HF := Lib.hid hfound
        have HD : decide (0 ≤ idxOf (fun z => decide (z = xs[k])) (xs.take k)) = false := decide_eq_false hfound
        clear hfound
        by_cases hany : q2.any (outOf k) = true
        · have HA := Lib.hid hany
          go_wp2_with fail
          refine wp_region_grown (by kernel_rfl) (by kernel_rfl) ?_
          repeat (go_big_quiet_step (first
            | (go_at_call 60; refine grown_call (cellIndex_any _ _ _ _ (xs.take k) xs[k] _ (htk.gr ?_) (Rd.gr hrdq ?_)) <;> exact Gr.ext gW _)
            | (go_at_call 61; refine grown_call (slicesContainsFuncI_any _ _ q2 _ _ _ _ (hq2.gr ?_) (HTI.out _ ?_)) <;> first | exact Gr.ext gW _ | exact Gr.ext (Gr.refl _) _)))
          refine wpQuiet_nil ?_
          intro _ hw'
          obtain ⟨nx, hw''⟩ := hw'
          subst hw''
          go_wp2_with fail
          go_ret
          refine ⟨ret_bool (validB_false fun hv => any_outOf.1 HA.out fun c hc => ?_).symm, gW.trans (by repeat (first | exact Gr.refl _ | apply Gr.ext | apply Gr.alloc | apply Gr.drew))⟩
          exact (hv k hlt).2 c (by rw [HY.out]; exact hc)
        · have hany' : q2.any (outOf k) = false := by simpa using hany
          have HA := Lib.hid hany
          clear hany
          go_wp2_with fail
          refine wp_region_grown (by kernel_rfl) (by kernel_rfl) ?_
          repeat (go_big_quiet_step (first
            | (go_at_call 60; refine grown_call (cellIndex_any _ _ _ _ (xs.take k) xs[k] _ (htk.gr ?_) (Rd.gr hrdq ?_)) <;> exact Gr.ext gW _)
            | (go_at_call 61; refine grown_call (slicesContainsFuncI_any _ _ q2 _ _ _ _ (hq2.gr ?_) (HTI.out _ ?_)) <;> first | exact Gr.ext gW _ | exact Gr.ext (Gr.refl _) _)))
          refine wpQuiet_nil ?_
          intro _ hw'
          obtain ⟨nx, hw''⟩ := hw'
          subst hw''
          go_wp2_with fail
          obtain ⟨z, hz⟩ := (gX.trans (Gr.ext (Gr.refl W) nx) : Gr (w.alloc (Obj.cells #[Value.slice (some ⟨b, off, none⟩) xs.length ca] 32)) (W.ext nx))
          refine ⟨⟨k + 1, by omega, fun i hi hik => ?_, ⟨z, hz⟩, by go_num⟩, by simp [intOf]; omega⟩
          by_cases hik' : i < k
          · exact hT.out i hi hik'
          · obtain rfl : i = k := by omega
            refine ⟨Classical.byContradiction fun hc => by
              have h1 := HF.out
              have h2 := (any_take_iff hlt).2 hc
              omega, fun c hc => ?_⟩
            rw [HY.out] at hc
            exact (Classical.byContradiction fun hn => HA.out (any_outOf.2 hn) : ∀ c ∈ q2, 0 ≤ c ∧ c ≤ (i : Int) - 1) c hc
    · go_wp2
      go_ret
      exact ⟨ret_bool (validB_true fun i hi => hT.out i hi (by omega)).symm, (by repeat (first | exact Gr.refl _ | apply Gr.ext | apply Gr.alloc | apply Gr.drew))⟩
end Go.Proofs.Ytmfcagcanhmdbaa
