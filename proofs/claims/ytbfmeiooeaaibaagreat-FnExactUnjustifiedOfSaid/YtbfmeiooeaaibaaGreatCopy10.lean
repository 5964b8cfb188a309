/- A symbol in new memory: the reference's. No condition. -/
import Derived.Test.YtbfmeiooeaaibaaGreatTreeB
import Derived.Test.YtbfmeiooeaaibaaGreatRegC
namespace Go.Proofs.YtbfmeiooeaaibaaGreat
open Go.RowKit
variable {d : Nat}
set_option linter.unusedVariables false
set_option linter.unusedSimpArgs false

theorem Tryz.infoAttrC : (Tryz.prog.info? 79).map (fun i => (i.zero, i.size, i.bytes)) = some (some (.agg #[.string ByteArray.empty, .int .i64 0, .int .i64 0, .bool false]), 4, 40) := by kernel_rfl
theorem flatBool : FlatT Bool := fun _ _ _ _ h => h.1
theorem flatAttr : FlatT GAttribute := flatProd flatStr (flatProd flatInt (flatProd flatInt flatBool))

set_option maxRecDepth 10000 in
set_option maxHeartbeats 4000000 in
theorem l10Symbol_any {fx : List Nat} {cx : Array Value} (x : GSymbol) (w : World) (hx : Rd.rd fx w cx.toList x) (hl : wtSymbol x ≤ 1048576) :
    Calls Tryz.prog 117 #[.agg cx] w (Made w x) := by
  have HX := Lib.hid hx
  obtain ⟨x0, x1⟩ := x
  obtain ⟨vx1, fx1, rfl, hfpx, hx0, hx1⟩ := rdSymbol_inv x0 x1 hx
  have FPx := Lib.hid hfpx
  clear hfpx
  obtain ⟨ax1, kx1, rfl, ox11, ox12, ox13⟩ := hx1.open
  clear hx
  have hw1 : wtAttributeS x1 ≤ 1048576 := by
    have h : x0.size + wtAttributeS x1 ≤ 1048576 := hl
    omega
  have hll : x1.length ≤ 1048576 := Nat.le_trans (wtL_len wtAttribute x1) hw1
  obtain ⟨i0, hi, hz0, hz1, hz2⟩ := info_parts Tryz.infoAttrC
  have HZ := Lib.hid (And.intro hi (And.intro hz0 (And.intro hz1 hz2)))
  clear hi hz0 hz1 hz2 hl hw1
  go_enter Tryz.func117, Tryz.ntmps117
  go_wp2_with fail
  generalize hB : ((w.alloc (.cells #[.string x0, .slice ax1 x1.length kx1] 144)).alloc (.cells #[.string ⟨#[]⟩, .slice none 0 0] 144)) = B
  have gB : Gr w B := by rw [← hB]; exact (by repeat (first | exact Gr.refl _ | apply Gr.ext | apply Gr.alloc | apply Gr.drew))
  have bB0 : ∀ w' : World, Gr B w' → w'.cell? ⟨w.heap.size, 0, none⟩ = some (.string x0) := fun w' hg => hg.keep (by rw [← hB]; repeat (first | exact box_cell (by first | rfl | (simp; done) | (simp; omega)) rfl | refine Gr.keep (Gr.alloc (Gr.refl _) _) ?_ | refine Gr.keep (Gr.ext (Gr.refl _) _) ?_ | refine Gr.keep (Gr.drew (Gr.refl _)) ?_))
  have bB1 : ∀ w' : World, Gr B w' → w'.cell? ⟨w.heap.size, 1, none⟩ = some (.slice ax1 x1.length kx1) := fun w' hg => hg.keep (by rw [← hB]; repeat (first | exact box_cell (by first | rfl | (simp; done) | (simp; omega)) rfl | refine Gr.keep (Gr.alloc (Gr.refl _) _) ?_ | refine Gr.keep (Gr.ext (Gr.refl _) _) ?_ | refine Gr.keep (Gr.drew (Gr.refl _)) ?_))
  have sB : B.heap.size = w.heap.size + 2 := by rw [← hB]; first | (simp; done) | (simp; omega)
  have EB := Lib.hid hB
  clear hB
  refine wp_region_U (fun w' => Gr B w') 7 (by kernel_rfl) (Gr.drew (Gr.refl _)) (fun hU => ?_)
  refine anyU_take (i := 0) (v := ?_) rfl (by kernel_rfl) (by kernel_rfl) (by kernel_rfl) (by kernel_rfl) (fun _ _ _ h => h) (Or.inl ⟨by rfl, ?_⟩) (by assumption) ?_
  rotate_left 1
  · intro w hSw; (try dsimp only at hSw); go_simp; all_goals with_reducible rfl
  try simp only [Act.put, List.setIfInBounds_toArray, List.set_cons_zero, List.set_cons_succ]
  refine anyU_take (i := 3) (v := ?_) rfl (by kernel_rfl) (by kernel_rfl) (by kernel_rfl) (by kernel_rfl) (fun _ _ _ h => h) (Or.inl ⟨by rfl, ?_⟩) (by assumption) ?_
  rotate_left 1
  · intro w hSw; (try dsimp only at hSw); go_simp; all_goals with_reducible rfl
  try simp only [Act.put, List.setIfInBounds_toArray, List.set_cons_zero, List.set_cons_succ]
  refine anyU_take (i := 1) (v := ?_) rfl (by kernel_rfl) (by kernel_rfl) (by kernel_rfl) (by kernel_rfl) (fun _ _ _ h => h) (Or.inl ⟨by rfl, ?_⟩) (by assumption) ?_
  rotate_left 1
  · intro w hSw; (try dsimp only at hSw); go_simp; all_goals with_reducible rfl
  try simp only [Act.put, List.setIfInBounds_toArray, List.set_cons_zero, List.set_cons_succ]
  refine anyU_take (i := 4) (v := ?_) rfl (by kernel_rfl) (by kernel_rfl) (by kernel_rfl) (by kernel_rfl) (fun _ _ _ h => h) (Or.inl ⟨by rfl, ?_⟩) (by assumption) ?_
  rotate_left 1
  · intro w hSw; (try dsimp only at hSw); go_simp; all_goals with_reducible rfl
  try simp only [Act.put, List.setIfInBounds_toArray, List.set_cons_zero, List.set_cons_succ]
  refine anyU_ready (rs := [2]) (by kernel_rfl) (by simp) ?_
  refine (ReadyU.cons rfl (fun K hK => ?_) ReadyU.nil)
  go_simp
  refine hK.out _ _ (by repeat (first | exact Gr.refl _ | apply Gr.ext | apply Gr.alloc | apply Gr.drew)) (fun hU2 => ?_)
  clear hK K
  try simp only [Act.put, List.setIfInBounds_toArray, List.set_cons_zero, List.set_cons_succ]
  refine anyU_ready (rs := [5]) (by kernel_rfl) (by simp) ?_
  refine (ReadyU.cons rfl (fun K hK => ?_) ReadyU.nil)
  refine step_clone (w := B) flatAttr (by repeat (first | exact Gr.refl _ | apply Gr.ext | apply Gr.alloc | apply Gr.drew)) (by rfl) _ _ _ (by rfl) 79 i0 (.agg #[.string ByteArray.empty, .int .i64 0, .int .i64 0, .bool false]) 40 Tryz.underlying142 HZ.out.1 HZ.out.2.1 HZ.out.2.2.1 HZ.out.2.2.2 rfl _ (by rfl) (OwnR.lit0 (w0 := B) (w := B.drew) 79 (Nat.le_refl _) (by show _ = B.heap.size; omega)) (by intro h; cases h) _ x1 (by rfl) (hx1.gr (gB.trans (by repeat (first | exact Gr.refl _ | apply Gr.ext | apply Gr.alloc | apply Gr.drew)))) hll (by omega) ?_
  intro b c fq y hs hf hg hb _ _
  have HS := Lib.hid hs
  have HF := Lib.hid hf
  clear hs hf
  refine hK.out _ _ hg (fun hU3 => ?_)
  clear hK K
  try simp only [Act.put, List.setIfInBounds_toArray, List.set_cons_zero, List.set_cons_succ]
  refine anyU_take (i := 6) (v := ?_) rfl (by kernel_rfl) (by kernel_rfl) (by kernel_rfl) (by kernel_rfl) (fun _ _ _ h => h) (Or.inl ⟨by rfl, ?_⟩) (by assumption) ?_
  rotate_left 1
  · intro w hSw; (try dsimp only at hSw); go_simp; all_goals with_reducible rfl
  try simp only [Act.put, List.setIfInBounds_toArray, List.set_cons_zero, List.set_cons_succ]
  refine anyU_ready (rs := [7]) (by kernel_rfl) (by simp) ?_
  refine ReadyU.last rfl (fun K hK => ?_)
  obtain rfl := EB.out
  go_simp
  refine hK.out _ _ ?_
  clear hK K
  try simp only [Act.put, List.setIfInBounds_toArray, List.set_cons_zero, List.set_cons_succ]
  refine anyU_done (by kernel_rfl) ?_ _
  go_wp2_with fail
  exact bodyPost_ret (v := .agg #[.string x0, .slice (some ⟨b, 0, none⟩) x1.length c])
    (by simp [results, Tryz.results117, go_sem]) rfl ⟨_, _, rfl, rdSymbol_mk x0 x1 hx0 (SlR.moved HS.out HF.out (by repeat (first | exact Gr.refl _ | apply Gr.ext | apply Gr.alloc | apply Gr.drew)) (by simp)), HF.out.of_le (by simp <;> omega), (by repeat (first | exact Gr.refl _ | apply Gr.ext | apply Gr.alloc | apply Gr.drew))⟩
end Go.Proofs.YtbfmeiooeaaibaaGreat
