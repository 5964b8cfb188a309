/- A store copied: the reference's. No condition. -/
import Derived.Test.YtmfcagcanhmdbaaOwnC
import Derived.Test.YtmfcagcanhmdbaaPut
namespace Go.Proofs.Ytmfcagcanhmdbaa
open Go.RowKit
set_option linter.unusedVariables false
set_option linter.unusedSimpArgs false

set_option maxRecDepth 10000 in
set_option maxHeartbeats 8000000 in
theorem l39Copy_any {fs : List Nat} {cs : Array Value} (s : GStore) (w : World) (hs : Rd.rd fs w cs.toList s) (hl1 : s.length ≤ 2097152) (hl2 : ∀ c ∈ s, c.2.2.length ≤ 1048576) :
    Calls Try.prog 32 #[.agg cs] w (CopiedS w s) := by
  obtain ⟨i0, hi, hz0, hz1, hz2⟩ := info_parts Try.infoCell
  have HZ := Lib.hid (And.intro hi (And.intro hz0 (And.intro hz1 hz2)))
  clear hi hz0 hz1 hz2
  obtain ⟨i1, hi, hz0, hz1, hz2⟩ := info_parts Try.infoIntC
  have HZI := Lib.hid (And.intro hi (And.intro hz0 (And.intro hz1 hz2)))
  clear hi hz0 hz1 hz2
  have HL2 := Lib.hid hl2
  clear hl2
  have HS := Lib.hid hs
  obtain ⟨s0, rfl⟩ : ∃ y, y = s := ⟨s, rfl⟩
  obtain ⟨vs0, fs0, rfl, hfps, hs0⟩ := rdStore_inv s0 hs
  have FPs := Lib.hid hfps
  clear hfps
  obtain ⟨as0, ks0, rfl, os01, os02, os03⟩ := hs0.open
  clear hs
  have hl : s0.length ≤ 2097152 := hl1
  clear hl1
  go_enter Try.func32, Try.ntmps32
  go_wp2_with fail
  generalize hB : ((w.alloc (.cells #[.slice as0 s0.length ks0] 32)).alloc (.cells #[.slice none 0 0] 32)).alloc (.cells #[.slice none 0 0] 32) = B
  have gB : Gr w B := by rw [← hB]; exact (by repeat (first | exact Gr.refl _ | apply Gr.ext | apply Gr.alloc | apply Gr.drew))
  have vr : VRow B (w.heap.size + 1) 32 [.slice none 0 0] := by
    rw [← hB]
    exact (VRow.new (A := (w.alloc (.cells #[.slice as0 s0.length ks0] 32))) (by simp)).gr (by repeat (first | exact Gr.refl _ | apply Gr.ext | apply Gr.alloc | apply Gr.drew))
  have vo : VRow B (w.heap.size + 1 + 1) 32 [.slice none 0 0] := by
    rw [← hB]
    exact VRow.new (by simp)
  have cB : B.cell? ⟨w.heap.size, 0, none⟩ = some (.slice as0 s0.length ks0) := by rw [← hB]; exact Gr.keep (by repeat (first | exact Gr.refl _ | apply Gr.ext | apply Gr.alloc | apply Gr.drew)) (box_cell (A := w) rfl rfl)
  have HCB := Lib.hid cB
  have sB : B.heap.size = w.heap.size + 3 := by rw [← hB]; simp
  have HVR := Lib.hid vr
  have HVO := Lib.hid vo
  clear hB vr vo cB
  go_loopw [4] (fun s10 wr => ∃ (k : Nat) (v : Value) (F : List Nat), k ≤ s0.length ∧ Hid (Gr w wr) ∧ B.heap.size ≤ wr.heap.size ∧ Hid (VRow wr (w.heap.size + 1) 32 [.slice none 0 0]) ∧ Hid (VRow wr (w.heap.size + 1 + 1) 32 [v]) ∧ Hid (OwnC B wr v F (s0.take k)) ∧ Hid (wr.cell? ⟨w.heap.size, 0, none⟩ = some (.slice as0 s0.length ks0)) ∧ s10 = .int .i64 k) (fun s10 _ => s0.length - (intOf s10).toNat)
  case atStart => exact ⟨0, _, _, by omega, Lib.hid gB, Nat.le_refl _, HVR, HVO, Lib.hid (OwnC.nil B B), HCB, rfl⟩
  case round =>
    obtain ⟨k, v, F, hk, HG, hsz, HR3, HO3, HC3, HB3, rfl⟩ := hrel
    rename World => W3
    have c3 := HB3.out
    have zc3 := blk c3
    by_cases hlt : k < s0.length
    · skip
      obtain ⟨b, off, rfl, hbb⟩ := os03 k hlt
      obtain ⟨csq, feq, hcq, hrq, -⟩ := hs0.at hlt
      obtain ⟨yq, hyq⟩ : ∃ y, y = s0[k] := ⟨_, rfl⟩
      rw [← hyq] at hrq
      have HYq := Lib.hid hyq
      have HRq := Lib.hid hrq
      obtain ⟨q0, q1, q2⟩ := yq
      obtain ⟨vq2, fq2, hcsq, -, hq0, hq1, hq2⟩ := rdCell_inv (cs := csq.toArray) q0 q1 q2 (by simpa using hrq)
      obtain rfl : csq = [.string q0, .int .i64 q1, vq2] := by have := congrArg Array.toList hcsq; simpa using this
      obtain ⟨aq2, kq2, rfl, oq21, oq22, oq23⟩ := hq2.open
      have qz0 := HG.out.keep (show w.cell? ⟨b, off + k * 3, none⟩ = some (.string q0) from by simpa [Rd.n] using hcq 0 _ rfl)
      have qz1 := HG.out.keep (show w.cell? ⟨b, off + k * 3 + 1, none⟩ = some (.int .i64 q1) from hcq 1 _ rfl)
      have qz2 := HG.out.keep (show w.cell? ⟨b, off + k * 3 + 2, none⟩ = some (.slice aq2 q2.length kq2) from hcq 2 _ rfl)
      have qzb := blk qz0
      clear hcsq hcq hrq hyq
      have hql : q2.length ≤ 1048576 := by
        have := HL2.out (q0, q1, q2) (by rw [HYq.out]; exact List.getElem_mem hlt)
        exact this
      have HQ := Lib.hid (And.intro hq0 hq1)
      have HQ2 := Lib.hid hq2
      have k0 : (0 : Int) ≤ (k : Int) := by omega
      have k1 : (k : Int) < (s0.length : Int) := by omega
      have iw : IntKind.i64.wrap ((k : Int) + 1) = (k : Int) + 1 := IntWalk.i64_in _ (by omega)
      have o0 := HO3.out.box
      have zo0 := blk o0
      obtain ⟨T, hT⟩ : ∃ T, T = s0.take k := ⟨_, rfl⟩
      have hlk : T.length = k := by rw [hT, List.length_take]; omega
      rw [← hT] at HC3
      have HTT := Lib.hid hT
      clear hT
      obtain ⟨ra, rc, hform⟩ := HC3.out.form
      subst hform
      have hFl := HC3.out.lt
      have hFg := HC3.out.ge
      obtain ⟨fps, hO, hnd, hge, hFE⟩ := HC3.out
      have HO := Lib.hid hO
      have HND := Lib.hid (And.intro hnd hge)
      have HFL := Lib.hid hFl
      have HFG := Lib.hid hFg
      have HFE := Lib.hid hFE
      have HLK := Lib.hid hlk
      have hso : w.heap.size + 1 + 1 ∉ (Value.slice ra T.length rc).ownBlock.toList := fun hm => by
        have := hFg _ (by rw [hFE]; exact List.mem_append_left _ hm)
        omega
      have hsr : w.heap.size + 1 ∉ (Value.slice ra T.length rc).ownBlock.toList := fun hm => by
        have := hFg _ (by rw [hFE]; exact List.mem_append_left _ hm)
        omega
      have hsb : w.heap.size ∉ (Value.slice ra T.length rc).ownBlock.toList := fun hm => by
        have := hFg _ (by rw [hFE]; exact List.mem_append_left _ hm)
        omega
      have HSB := Lib.hid hsb
      clear hsb
      have HSO := Lib.hid hso
      have HSR := Lib.hid hsr
      clear hq0 hq1 hO hnd hge hFE hFl hFg hlk hso hsr
      go_wp2_with (first
        | (at_builtin; refine wpList_clone (α := Int) flatInt rfl _ _ 59 rfl 3 i1 (.int .i64 0) 8 Try.underlying59 HZI.out.1 HZI.out.2.1 HZI.out.2.2.1 HZI.out.2.2.2 rfl (by rfl) (by simp) (by rfl) (HQ2.out.gr (HG.out.trans (by repeat (first | exact Gr.refl _ | apply Gr.ext | apply Gr.alloc | apply Gr.drew)))) hql (by omega) ?_; intro b5 c5 f5 y5 s5 r5; have S5 := Lib.hid s5; have R5 := Lib.hid r5; have HR5 := Lib.hid (And.intro r5.1 (show ∀ b ∈ f5, W3.heap.size < b from fun b hb => by have := r5.2 b hb; simp at this; omega)); have HAP := Lib.hid (show ∀ b, (Value.slice ra T.length rc).ownBlock = some b → b ∉ [f5].flatten from fun b hb hm => by have h1 := HFL.out b (by rw [HFE.out]; exact List.mem_append_left _ (by rw [hb]; simp)); have h2 := HR5.out.2 b (by simpa using hm); omega); have HN5 := Lib.hid (show ∀ b ∈ f5, B.heap.size ≤ b ∧ b ∉ fps.flatten from fun b hb => ⟨by have := HR5.out.2 b hb; omega, fun hm => by have h1 := HFL.out b (by rw [HFE.out]; exact List.mem_append_right _ hm); have h2 := HR5.out.2 b hb; omega⟩); clear s5 r5)
        | (at_builtin; refine wpList_append_RB (α := GCell) (wg := w) (w0 := B) (HG.out.trans (by repeat (first | exact Gr.refl _ | apply Gr.ext | apply Gr.alloc | apply Gr.drew))) gB.size (by simp; omega) rfl _ _ 30 rfl 78 i0 (.agg #[.string ByteArray.empty, .int .i64 0, .slice none 0 0]) 48 Try.underlying30 HZ.out.1 HZ.out.2.1 HZ.out.2.2.1 HZ.out.2.2.2 rfl _ fps _ (by rfl) (HO.out.gr (by repeat (first | exact Gr.refl _ | apply Gr.ext | apply Gr.alloc | apply Gr.drew))) _ [f5] [(q0, q1, q2)] (by rfl) (SrcR.one (by simp) (rdCell_mk q0 q1 q2 HQ.out.1 HQ.out.2 (S5.out.moved R5.out (by repeat (first | exact Gr.refl _ | apply Gr.ext | apply Gr.alloc | apply Gr.drew)) (by simp)))) HAP.out (by rw [HLK.out]; unfold maxLen; simp; omega) (by rw [HLK.out]; simp; omega) ?_; intro v3 w3 h1 h2 h3 h4; have t3 : OwnC B w3 v3 (v3.ownBlock.toList ++ (fps.flatten ++ f5)) (T ++ [(q0, q1, q2)]) := OwnC.of_append h1 HND.out.1 HND.out.2 HR5.out.1 HN5.out; obtain ⟨va3, vc3, hf3⟩ := t3.form; rw [show (T ++ [(q0, q1, q2)]).length = T.length + 1 by simp] at hf3; subst hf3; replace t3 := Lib.hid t3; have hw3 := ((by repeat (first | exact Gr.refl _ | apply Gr.ext | apply Gr.alloc | apply Gr.drew)) : Gr W3 (((W3.alloc (.cells #[.string q0, .int .i64 q1, .slice (some ⟨b5, 0, none⟩) q2.length c5] 78)).ext y5).alloc (.cells #[.string q0, .int .i64 q1, .slice (some ⟨b5, 0, none⟩) q2.length c5] 78))).toWr _ |>.trans h2; have vo3 := HO3.out.wr hw3 HSO.out; have d0 := vo3.box; have fd0 := vo3.frozen 0; have zd0 := blk d0; have hs3 := hw3.size; have HW3 := Lib.hid hw3; have HVO3 := Lib.hid vo3; replace h3 := Lib.hid h3; replace h4 := Lib.hid h4; clear h1 h2 hw3 vo3))
      have h30 := h3.out
      refine ⟨⟨k + 1, .slice va3 (T.length + 1) vc3, (Value.slice va3 (T.length + 1) vc3).ownBlock.toList ++ (fps.flatten ++ f5), by omega, Lib.hid (h4.out.setCell (p := ⟨w.heap.size + 1 + 1, 0, none⟩) (by simp <;> omega) _), by rw [size_setCell']; omega, Lib.hid ((HR3.out.wr HW3.out HSR.out).ne (by omega)), Lib.hid (HVO3.out.set 0 _), Lib.hid ?_, Lib.hid (((Wr.refl [w.heap.size + 1 + 1] _).setCell (by simp) _).keepC (HW3.out.keepC HB3.out HSB.out) (by simp; omega)), by go_num⟩, by simp [intOf]; omega⟩
      have hq : s0.take (k + 1) = T ++ [(q0, q1, q2)] := by rw [List.take_succ_eq_append_getElem hlt, HTT.out, HYq.out]
      rw [hq]
      exact t3.out.wr ((Wr.refl [w.heap.size + 1 + 1] _).setCell (by simp) _) (fun b hb hm => by
        have := t3.out.ge b hb
        simp at hm
        omega)
    · obtain rfl : k = s0.length := by omega
      have hC := HC3.out
      rw [List.take_length] at hC
      obtain ⟨va, vc, hform⟩ := hC.form
      subst hform
      have HC := Lib.hid hC
      clear hC
      have y0 := HO3.out.box
      have x0 := HR3.out.box
      have zy0 := blk y0
      have zx0 := blk x0
      have fx0 := HR3.out.frozen 0
      go_wp2_with fail
      generalize hF : W3.setCell ⟨w.heap.size + 1, 0, none⟩ (.slice va s0.length vc) = WF
      have vF : VRow WF (w.heap.size + 1) 32 [.slice va s0.length vc] := by rw [← hF]; exact HR3.out.set 0 _
      have tF : OwnC B WF (.slice va s0.length vc) F s0 := by
        rw [← hF]
        have h1 := HC.out
        exact h1.wr ((Wr.refl [w.heap.size + 1] _).setCell (by simp) _) (fun b hb hm => by
          have := h1.ge b hb
          simp at hm
          omega)
      have gF : Gr w WF := by rw [← hF]; exact HG.out.setCell (p := ⟨w.heap.size + 1, 0, none⟩) (by simp) _
      have r0' := vF.box
      clear hF vF
      exact bodyPost_ret (v := .agg #[.slice va s0.length vc]) (by simp [results, Try.results32, go_sem, r0']) rfl ⟨_, F, rfl, tF.lower gB.size, gF⟩
end Go.Proofs.Ytmfcagcanhmdbaa
