/- A rule in new memory: the reference's. No condition. -/
import Derived.Test.YtmfcagcanhmdbaaH22
import Derived.Deep.DeepCutAuto
namespace Go.Proofs.Ytmfcagcanhmdbaa
open Go.RowKit
variable {d : Nat}
set_option linter.unusedVariables false
set_option linter.unusedSimpArgs false

theorem Try.infoEqC : (Try.prog.info? 162).map (fun i => (i.zero, i.size, i.bytes)) = some (some (.agg #[.int .i64 0, .string ByteArray.empty, .int .i64 0, .int .i64 0, .int .i64 0, .int .i64 0, .string ByteArray.empty, .string ByteArray.empty, .slice none 0 0]), 9, 112) := by kernel_rfl
theorem Try.infoConC : (Try.prog.info? 165).map (fun i => (i.zero, i.size, i.bytes)) = some (some (.agg #[.string ByteArray.empty, .string ByteArray.empty, .int .i64 0, .int .i64 0, .int .i64 0, .int .i64 0, .string ByteArray.empty, .string ByteArray.empty, .slice none 0 0, .int .i64 0, .int .i64 0, .int .i64 0, .int .i64 0, .string ByteArray.empty, .string ByteArray.empty, .slice none 0 0]), 16, 208) := by kernel_rfl
theorem Try.infoStrC : (Try.prog.info? 9).map (fun i => (i.zero, i.size, i.bytes)) = some (some (.string ByteArray.empty), 1, 16) := by kernel_rfl

def OutBox (B : World) (T : TypeId) (n l : ByteArray) (xs : List ByteArray) (lit : Bool) (s : Value) (wr : World) : Prop :=
 ∃ bo a c fq, s = .pointer (some ⟨bo, 0, none⟩) ∧ VRow wr bo T [.string n, .string l, .slice a xs.length c, .bool lit, .slice none 0 0, .slice none 0 0] ∧ SlR fq wr (.slice a xs.length c) xs ∧ Fresh B fq ∧ Gr B wr ∧ B.heap.size ≤ bo ∧ bo ∉ fq

set_option maxRecDepth 100000 in
set_option maxHeartbeats 16000000 in
theorem l9Copy_any {fx : List Nat} {cx : Array Value} (x : (GRule d)) (w : World) (hx : Rd.rd fx w cx.toList x) (hl : wtRule x ≤ 1048576) :
  Calls Try.prog 122 #[.agg cx] w (Made w x) := by
 have HX := Lib.hid hx
 obtain ⟨x0, x1, x2, x3, x4, x5⟩ := x
 obtain ⟨vx2, fx2, vx4, fx4, vx5, fx5, rfl, hfpx, hx0, hx1, hx2, hx4, hx5⟩ := rdRule_inv x0 x1 x2 x3 x4 x5 hx
 have FPx := Lib.hid hfpx
 clear hfpx
 obtain ⟨ax2, kx2, rfl, ox21, ox22, ox23⟩ := hx2.open
 obtain ⟨ax4, kx4, rfl, ox41, ox42, ox43⟩ := hx4.open
 obtain ⟨ax5, kx5, rfl, ox51, ox52, ox53⟩ := hx5.open
 clear hx
 have hw : wtStringS x2 ≤ 1048576 ∧ wtEquationS x4 ≤ 1048576 ∧ wtContributionS x5 ≤ 1048576 := by
  have h : x0.size + x1.size + wtStringS x2 + wtEquationS x4 + wtContributionS x5 ≤ 1048576 := hl
  omega
 have hl2 : x2.length ≤ 1048576 := Nat.le_trans (wtL_len ByteArray.size x2) hw.1
 have hl4 : x4.length ≤ 1048576 := Nat.le_trans (wtL_len wtEquation x4) hw.2.1
 have hl5 : x5.length ≤ 1048576 := Nat.le_trans (wtL_len wtContribution x5) hw.2.2
 have HWT := Lib.hid hw
 have H0 := Lib.hid (And.intro hx0 hx1)
 obtain ⟨i0, hi, hz0, hz1, hz2⟩ := info_parts Try.infoStrC
 have HZ := Lib.hid (And.intro hi (And.intro hz0 (And.intro hz1 hz2)))
 clear hi hz0 hz1 hz2
 obtain ⟨i1, hi, hz0, hz1, hz2⟩ := info_parts Try.infoEqC
 have HZ1 := Lib.hid (And.intro hi (And.intro hz0 (And.intro hz1 hz2)))
 clear hi hz0 hz1 hz2
 obtain ⟨i2, hi, hz0, hz1, hz2⟩ := info_parts Try.infoConC
 have HZ2 := Lib.hid (And.intro hi (And.intro hz0 (And.intro hz1 hz2)))
 clear hi hz0 hz1 hz2 hl hw hx0 hx1
 go_enter Try.func122, Try.ntmps122
 go_wp2_with fail
 generalize hB : ((w.alloc (.cells #[.string x0, .string x1, .slice ax2 x2.length kx2, .bool x3, .slice ax4 x4.length kx4, .slice ax5 x5.length kx5] 138)).alloc (.cells #[.string ⟨#[]⟩, .string ⟨#[]⟩, .slice none 0 0, .bool false, .slice none 0 0, .slice none 0 0] 138)) = B
 have gB : Gr w B := by rw [← hB]; exact gd
 have bB0 : ∀ w' : World, Gr B w' → w'.cell? ⟨w.heap.size, 0, none⟩ = some (.string x0) := fun w' hg => hg.keep (by rw [← hB]; repeat (first | exact box_cell (by first | rfl | (simp; done) | (simp; omega)) rfl | refine Gr.keep (Gr.alloc (Gr.refl _) _) ?_ | refine Gr.keep (Gr.ext (Gr.refl _) _) ?_ | refine Gr.keep (Gr.drew (Gr.refl _)) ?_))
 have bB1 : ∀ w' : World, Gr B w' → w'.cell? ⟨w.heap.size, 1, none⟩ = some (.string x1) := fun w' hg => hg.keep (by rw [← hB]; repeat (first | exact box_cell (by first | rfl | (simp; done) | (simp; omega)) rfl | refine Gr.keep (Gr.alloc (Gr.refl _) _) ?_ | refine Gr.keep (Gr.ext (Gr.refl _) _) ?_ | refine Gr.keep (Gr.drew (Gr.refl _)) ?_))
 have bB2 : ∀ w' : World, Gr B w' → w'.cell? ⟨w.heap.size, 2, none⟩ = some (.slice ax2 x2.length kx2) := fun w' hg => hg.keep (by rw [← hB]; repeat (first | exact box_cell (by first | rfl | (simp; done) | (simp; omega)) rfl | refine Gr.keep (Gr.alloc (Gr.refl _) _) ?_ | refine Gr.keep (Gr.ext (Gr.refl _) _) ?_ | refine Gr.keep (Gr.drew (Gr.refl _)) ?_))
 have bB3 : ∀ w' : World, Gr B w' → w'.cell? ⟨w.heap.size, 3, none⟩ = some (.bool x3) := fun w' hg => hg.keep (by rw [← hB]; repeat (first | exact box_cell (by first | rfl | (simp; done) | (simp; omega)) rfl | refine Gr.keep (Gr.alloc (Gr.refl _) _) ?_ | refine Gr.keep (Gr.ext (Gr.refl _) _) ?_ | refine Gr.keep (Gr.drew (Gr.refl _)) ?_))
 have bB4 : ∀ w' : World, Gr B w' → w'.cell? ⟨w.heap.size, 4, none⟩ = some (.slice ax4 x4.length kx4) := fun w' hg => hg.keep (by rw [← hB]; repeat (first | exact box_cell (by first | rfl | (simp; done) | (simp; omega)) rfl | refine Gr.keep (Gr.alloc (Gr.refl _) _) ?_ | refine Gr.keep (Gr.ext (Gr.refl _) _) ?_ | refine Gr.keep (Gr.drew (Gr.refl _)) ?_))
 have bB5 : ∀ w' : World, Gr B w' → w'.cell? ⟨w.heap.size, 5, none⟩ = some (.slice ax5 x5.length kx5) := fun w' hg => hg.keep (by rw [← hB]; repeat (first | exact box_cell (by first | rfl | (simp; done) | (simp; omega)) rfl | refine Gr.keep (Gr.alloc (Gr.refl _) _) ?_ | refine Gr.keep (Gr.ext (Gr.refl _) _) ?_ | refine Gr.keep (Gr.drew (Gr.refl _)) ?_))
 have sB : B.heap.size = w.heap.size + 2 := by rw [← hB]; first | (simp; done) | (simp; omega)
 have EB := Lib.hid hB
 clear hB
 go_cut [3] (fun s3 wr => OutBox B 138 x0 x1 x2 x3 s3 wr)
 case first =>
  refine wp_region_U (fun w' => Gr B w') 12 (by kernel_rfl) (Gr.drew (Gr.refl _)) (fun hU => ?_)
  refine anyU_q 0 ?_
  try simp only [Act.put, uq1, uq2, uq3]
  refine anyU_q 2 ?_
  try simp only [Act.put, uq1, uq2, uq3]
  refine anyU_q 4 ?_
  try simp only [Act.put, uq1, uq2, uq3]
  refine anyU_q 7 ?_
  try simp only [Act.put, uq1, uq2, uq3]
  refine anyU_q 1 ?_
  try simp only [Act.put, uq1, uq2, uq3]
  refine anyU_q 3 ?_
  try simp only [Act.put, uq1, uq2, uq3]
  refine anyU_q 5 ?_
  try simp only [Act.put, uq1, uq2, uq3]
  refine anyU_q 8 ?_
  try simp only [Act.put, uq1, uq2, uq3]
  refine anyU_ready (rs := [6, 11]) (by kernel_rfl) (by simp) ?_
  refine (ReadyU.cons rfl (fun K hK => ?_) (ReadyU.cons rfl (fun K hK => ?_) ReadyU.nil))
  ·skip
   go_simp
   refine hK.out _ _ gd (fun hU2 => ?_)
   clear hK K
   try simp only [Act.put, uq1, uq2, uq3]
   refine anyU_ready (rs := [9, 11]) (by kernel_rfl) (by simp) ?_
   refine (ReadyU.cons rfl (fun K hK => ?_) (ReadyU.cons rfl (fun K hK => ?_) ReadyU.nil))
   ·skip
    refine step_clone (w := B) flatStr gd (by rfl) _ _ _ (by rfl) 9 i0 (.string ByteArray.empty) 16 Try.underlying130 HZ.out.1 HZ.out.2.1 HZ.out.2.2.1 HZ.out.2.2.2 rfl _ (by rfl) (by first | exact (OwnR.lit0 (w0 := B) (w := B) 9 (Nat.le_refl _) (by omega)).gr gd | exact (OwnR.lit0 (w0 := B) (w := B.alloc _) 9 (by simp) (by simp; omega)).gr gd) (by intro h; cases h) _ x2 (by rfl) (hx2.gr (gB.trans gd)) hl2 (by omega) ?_
    intro b c fq y hs hf hg hb hwr hfq
    have HS := Lib.hid hs
    have HF := Lib.hid hf
    have HFQ := Lib.hid hfq
    have HWR := Lib.hid hwr
    clear hs hf hfq hwr
    refine hK.out _ _ hg (fun hU4 => ?_)
    clear hK K
    try simp only [Act.put, uq1, uq2, uq3]
    refine anyU_q 10 ?_
    try simp only [Act.put, uq1, uq2, uq3]
    refine anyU_ready (rs := [11]) (by kernel_rfl) (by simp) ?_
    refine (ReadyU.cons rfl (fun K hK => ?_) ReadyU.nil)
    go_simp
    refine hK.out _ _ gd (fun hU3 => ?_)
    clear hK K
    try simp only [Act.put, uq1, uq2, uq3]
    refine anyU_ready (rs := [12]) (by kernel_rfl) (by simp) ?_
    refine ReadyU.last rfl (fun K hK => ?_)
    go_simp
    refine hK.out _ _ ?_
    clear hK K
    try simp only [Act.put, uq1, uq2, uq3]
    refine anyU_done (by kernel_rfl) ?_ _
    go_wp2_with fail
    go_meet
    refine ⟨_, _, _, fq, rfl, ?_, HS.out.gr gd, HF.out, gd, by omega, fun hm => by have := HS.out.lt _ hm; simp at this; omega⟩
    unfold VRow
    rw [show w.heap.size + 2 + y.objs.size = (B.ext y).heap.size by simp; omega]
    exact heap_alloc_new _ _
   ·skip
    go_simp
    refine hK.out _ _ gd (fun hU3 => ?_)
    clear hK K
    try simp only [Act.put, uq1, uq2, uq3]
    refine anyU_ready (rs := [9]) (by kernel_rfl) (by simp) ?_
    refine (ReadyU.cons rfl (fun K hK => ?_) ReadyU.nil)
    refine step_clone (w := B) flatStr gd (by rfl) _ _ _ (by rfl) 9 i0 (.string ByteArray.empty) 16 Try.underlying130 HZ.out.1 HZ.out.2.1 HZ.out.2.2.1 HZ.out.2.2.2 rfl _ (by rfl) (by first | exact (OwnR.lit0 (w0 := B) (w := B) 9 (Nat.le_refl _) (by omega)).gr gd | exact (OwnR.lit0 (w0 := B) (w := B.alloc _) 9 (by simp) (by simp; omega)).gr gd) (by intro h; cases h) _ x2 (by rfl) (hx2.gr (gB.trans gd)) hl2 (by omega) ?_
    intro b c fq y hs hf hg hb hwr hfq
    have HS := Lib.hid hs
    have HF := Lib.hid hf
    have HFQ := Lib.hid hfq
    have HWR := Lib.hid hwr
    clear hs hf hfq hwr
    refine hK.out _ _ hg (fun hU4 => ?_)
    clear hK K
    try simp only [Act.put, uq1, uq2, uq3]
    refine anyU_q 10 ?_
    try simp only [Act.put, uq1, uq2, uq3]
    refine anyU_ready (rs := [12]) (by kernel_rfl) (by simp) ?_
    refine ReadyU.last rfl (fun K hK => ?_)
    have kO : VRow (B.ext y) (w.heap.size + 2 + 1) 138 [.string ⟨#[]⟩, .string ⟨#[]⟩, .slice none 0 0, .bool false, .slice none 0 0, .slice none 0 0] := by
     have hwr2 : Wr [w.heap.size + 2] _ (B.ext y) := HWR.out
     refine VRow.wr ?_ hwr2 (by simp)
     unfold VRow
     show ((B.alloc (.cells #[] 9)).alloc _).heap[_]? = _; rw [show w.heap.size + 2 + 1 = (B.alloc (.cells #[] 9)).heap.size by simp; omega]; exact heap_alloc_new _ _
    have hq2 : ∀ c ∈ fq, w.heap.size + 2 = c ∨ ((B.alloc (.cells #[] 9)).alloc (.cells #[.string ⟨#[]⟩, .string ⟨#[]⟩, .slice none 0 0, .bool false, .slice none 0 0, .slice none 0 0] 138)).drew.heap.size ≤ c := fun c hc => (HFQ.out c hc).imp (fun h => ownB h) id
    have hbn : w.heap.size + 2 + 1 ∉ fq := fun hm => by have := hq2 _ hm; simp at this; omega
    have HBN := Lib.hid hbn
    clear hq2 hbn
    have zc0 := kO.cell (k := 0) (by simp)
    have zf0 := kO.frozen 0
    have zc1 := kO.cell (k := 1) (by simp)
    have zf1 := kO.frozen 1
    have zc2 := kO.cell (k := 2) (by simp)
    have zf2 := kO.frozen 2
    have zc3 := kO.cell (k := 3) (by simp)
    have zf3 := kO.frozen 3
    have zc4 := kO.cell (k := 4) (by simp)
    have zf4 := kO.frozen 4
    have zc5 := kO.cell (k := 5) (by simp)
    have zf5 := kO.frozen 5
    simp only [List.getElem_cons_zero, List.getElem_cons_succ] at zc0 zc1 zc2 zc3 zc4 zc5
    have HKO := Lib.hid kO
    clear kO
    go_simp
    refine hK.out _ _ ?_
    clear hK K
    try simp only [Act.put, uq1, uq2, uq3]
    refine anyU_done (by kernel_rfl) ?_ _
    go_wp2_with fail
    go_meet
    refine ⟨_, _, _, fq, rfl, (((((HKO.out.set 0 _).set 1 _).set 2 _).set 3 _).set 4 _).set 5 _, HS.out.wr ((((((((Wr.refl [w.heap.size + 2 + 1] _).setCell (by simp) _).setCell (by simp) _).setCell (by simp) _).setCell (by simp) _).setCell (by simp) _).setCell (by simp) _)) (fun c hc hm => by simp at hm; subst hm; exact HBN.out hc), HF.out, ?_, by omega, HBN.out⟩
    exact (((((((Gr.refl B).ext y).setCell (by simp; omega) _).setCell (by simp; omega) _).setCell (by simp; omega) _).setCell (by simp; omega) _).setCell (by simp; omega) _).setCell (by simp; omega) _
  ·skip
   go_simp
   refine hK.out _ _ gd (fun hU3 => ?_)
   clear hK K
   try simp only [Act.put, uq1, uq2, uq3]
   refine anyU_ready (rs := [6]) (by kernel_rfl) (by simp) ?_
   refine (ReadyU.cons rfl (fun K hK => ?_) ReadyU.nil)
   go_simp
   refine hK.out _ _ gd (fun hU2 => ?_)
   clear hK K
   try simp only [Act.put, uq1, uq2, uq3]
   refine anyU_ready (rs := [9]) (by kernel_rfl) (by simp) ?_
   refine (ReadyU.cons rfl (fun K hK => ?_) ReadyU.nil)
   refine step_clone (w := B) flatStr gd (by rfl) _ _ _ (by rfl) 9 i0 (.string ByteArray.empty) 16 Try.underlying130 HZ.out.1 HZ.out.2.1 HZ.out.2.2.1 HZ.out.2.2.2 rfl _ (by rfl) (by first | exact (OwnR.lit0 (w0 := B) (w := B) 9 (Nat.le_refl _) (by omega)).gr gd | exact (OwnR.lit0 (w0 := B) (w := B.alloc _) 9 (by simp) (by simp; omega)).gr gd) (by intro h; cases h) _ x2 (by rfl) (hx2.gr (gB.trans gd)) hl2 (by omega) ?_
   intro b c fq y hs hf hg hb hwr hfq
   have HS := Lib.hid hs
   have HF := Lib.hid hf
   have HFQ := Lib.hid hfq
   have HWR := Lib.hid hwr
   clear hs hf hfq hwr
   refine hK.out _ _ hg (fun hU4 => ?_)
   clear hK K
   try simp only [Act.put, uq1, uq2, uq3]
   refine anyU_q 10 ?_
   try simp only [Act.put, uq1, uq2, uq3]
   refine anyU_ready (rs := [12]) (by kernel_rfl) (by simp) ?_
   refine ReadyU.last rfl (fun K hK => ?_)
   have kO : VRow (B.ext y) (w.heap.size + 2) 138 [.string ⟨#[]⟩, .string ⟨#[]⟩, .slice none 0 0, .bool false, .slice none 0 0, .slice none 0 0] := by
    have hwr2 : Wr [w.heap.size + 2 + 1] _ (B.ext y) := HWR.out
    refine VRow.wr ?_ hwr2 (by simp)
    unfold VRow
    show ((B.alloc _).alloc (.cells #[] 9)).heap[_]? = _; rw [show w.heap.size + 2 = B.heap.size by omega, (show Gr (B.alloc _) ((B.alloc (.cells #[.string ⟨#[]⟩, .string ⟨#[]⟩, .slice none 0 0, .bool false, .slice none 0 0, .slice none 0 0] 138)).alloc (.cells #[] 9)) from gd).below.block _ (by simp)]; exact heap_alloc_new _ _
   have hq2 : ∀ c ∈ fq, w.heap.size + 2 + 1 = c ∨ ((B.alloc (.cells #[.string ⟨#[]⟩, .string ⟨#[]⟩, .slice none 0 0, .bool false, .slice none 0 0, .slice none 0 0] 138)).alloc (.cells #[] 9)).drew.heap.size ≤ c := fun c hc => (HFQ.out c hc).imp (fun h => ownB h) id
   have hbn : w.heap.size + 2 ∉ fq := fun hm => by have := hq2 _ hm; simp at this; omega
   have HBN := Lib.hid hbn
   clear hq2 hbn
   have zc0 := kO.cell (k := 0) (by simp)
   have zf0 := kO.frozen 0
   have zc1 := kO.cell (k := 1) (by simp)
   have zf1 := kO.frozen 1
   have zc2 := kO.cell (k := 2) (by simp)
   have zf2 := kO.frozen 2
   have zc3 := kO.cell (k := 3) (by simp)
   have zf3 := kO.frozen 3
   have zc4 := kO.cell (k := 4) (by simp)
   have zf4 := kO.frozen 4
   have zc5 := kO.cell (k := 5) (by simp)
   have zf5 := kO.frozen 5
   simp only [List.getElem_cons_zero, List.getElem_cons_succ] at zc0 zc1 zc2 zc3 zc4 zc5
   have HKO := Lib.hid kO
   clear kO
   go_simp
   refine hK.out _ _ ?_
   clear hK K
   try simp only [Act.put, uq1, uq2, uq3]
   refine anyU_done (by kernel_rfl) ?_ _
   go_wp2_with fail
   go_meet
   refine ⟨_, _, _, fq, rfl, (((((HKO.out.set 0 _).set 1 _).set 2 _).set 3 _).set 4 _).set 5 _, HS.out.wr ((((((((Wr.refl [w.heap.size + 2] _).setCell (by simp) _).setCell (by simp) _).setCell (by simp) _).setCell (by simp) _).setCell (by simp) _).setCell (by simp) _)) (fun c hc hm => by simp at hm; subst hm; exact HBN.out hc), HF.out, ?_, by omega, HBN.out⟩
   exact (((((((Gr.refl B).ext y).setCell (by simp; omega) _).setCell (by simp; omega) _).setCell (by simp; omega) _).setCell (by simp; omega) _).setCell (by simp; omega) _).setCell (by simp; omega) _
 case rest =>
  obtain ⟨bo, a2, c2, fq2, rfl, kO, sO, frO, gO, hbo, hbn⟩ := hcut
  rename World => W2
  have HSO := Lib.hid sO
  have HFO := Lib.hid frO
  have HKO := Lib.hid kO
  have HGO := Lib.hid gO
  have HBN := Lib.hid hbn
  have hlO := kO.lt
  have hsz2 := gO.size
  clear sO frO kO gO hbn
  go_wp2_with fail
  go_loopw [4] (fun s4 wr => ∃ (k : Nat) (fps : List (List Nat)) (a4 : Option Addr) (c4 : Nat), k ≤ x4.length ∧ Hid (Fresh W2 fps.flatten) ∧ Gr B wr ∧ Hid (VRow wr bo 138 [.string x0, .string x1, .slice a2 x2.length c2, .bool x3, .slice a4 k c4, .slice none 0 0]) ∧ OwnR W2 162 wr (.slice a4 k c4) fps (x4.take k) ∧ Hid (SlR fq2 wr (.slice a2 x2.length c2) x2) ∧ W2.heap.size ≤ wr.heap.size ∧ s4 = .int .i64 k) (fun s4 _ => x4.length - (intOf s4).toNat)
  case atStart => exact ⟨0, [], none, 0, by omega, Lib.hid (by simpa using Fresh.nil W2), HGO.out, HKO, OwnR.nil W2 W2 162, HSO, by omega, rfl⟩
  case round =>
   obtain ⟨k, fps, a4, c4, hk, HF, hg, HK, hown, HS, hsz, rfl⟩ := hrel
   rename World => W1
   have HG := Lib.hid hg
   have HO := Lib.hid hown
   have hLl : (x4.take k).length = k := by simp; omega
   have HL := Lib.hid hLl
   have y4 := bB4 _ hg
   have zx := blk y4
   have zo : W1.cell? ⟨bo, 4, none⟩ = some (.slice a4 k c4) := HK.out.cell (k := 4) (by simp)
   have zob := blk zo
   clear hg hown hLl
   by_cases hlt : k < x4.length
   ·have hwk : wtEquation x4[k] ≤ 1048576 := Nat.le_trans (wtL_at wtEquation x4 hlt) HWT.out.2.1
    obtain ⟨b, off, rfl, hbb⟩ := ox43 k hlt
    obtain ⟨csq, feq, hcq, hrq, -⟩ := hx4.at hlt
    obtain ⟨yq, hyq⟩ : ∃ y, y = x4[k] := ⟨_, rfl⟩
    rw [← hyq] at hrq
    have HYq := Lib.hid hyq
    have HRq := Lib.hid hrq
    obtain ⟨⟨q00, q01⟩, ⟨q10, q11, q12, q13, q14, q15, q16⟩⟩ := yq
    obtain ⟨vq16, fq16, hcsq, -, hq00, hq01, hq10, hq11, hq12, hq13, hq14, hq15, hq16⟩ := rdEquation_inv (cs := csq.toArray) q00 q01 q10 q11 q12 q13 q14 q15 q16 (by simpa using hrq)
    obtain rfl : csq = [.int .i64 q00, .string q01, .int .i64 q10, .int .i64 q11, .int .i64 q12, .int .i64 q13, .string q14, .string q15, vq16] := by have := congrArg Array.toList hcsq; simpa using this
    obtain ⟨aq16, kq16, rfl, oq161, oq162, oq163⟩ := hq16.open
    have qz0 : w.cell? ⟨b, off + k * 9, none⟩ = some (.int .i64 q00) := by simpa [Rd.n] using hcq 0 _ rfl
    have qz1 : w.cell? ⟨b, off + k * 9 + 1, none⟩ = some (.string q01) := hcq 1 _ rfl
    have qz2 : w.cell? ⟨b, off + k * 9 + 2, none⟩ = some (.int .i64 q10) := hcq 2 _ rfl
    have qz3 : w.cell? ⟨b, off + k * 9 + 3, none⟩ = some (.int .i64 q11) := hcq 3 _ rfl
    have qz4 : w.cell? ⟨b, off + k * 9 + 4, none⟩ = some (.int .i64 q12) := hcq 4 _ rfl
    have qz5 : w.cell? ⟨b, off + k * 9 + 5, none⟩ = some (.int .i64 q13) := hcq 5 _ rfl
    have qz6 : w.cell? ⟨b, off + k * 9 + 6, none⟩ = some (.string q14) := hcq 6 _ rfl
    have qz7 : w.cell? ⟨b, off + k * 9 + 7, none⟩ = some (.string q15) := hcq 7 _ rfl
    have qz8 : w.cell? ⟨b, off + k * 9 + 8, none⟩ = some (.slice aq16 q16.length kq16) := hcq 8 _ rfl
    have qzb := blk qz0
    clear hcsq hcq hrq hyq
    rw [← HYq.out] at hwk
    have hwe : wtExpr (q10, q11, q12, q13, q14, q15, q16) ≤ 1048576 := by
     have h : wtOccurrence (q00, q01) + wtExpr (q10, q11, q12, q13, q14, q15, q16) ≤ 1048576 := hwk
     omega
    have HWE := Lib.hid hwe
    have HRE := Lib.hid (rdExpr_mk q10 q11 q12 q13 q14 q15 q16 hq10 hq11 hq12 hq13 hq14 hq15 hq16)
    have HA := Lib.hid (And.intro hq00 hq01)
    have ke0 := fun (w' : World) (hg : Gr B w') => (gB.trans hg).keep qz0
    have ke1 := fun (w' : World) (hg : Gr B w') => (gB.trans hg).keep qz1
    have ke2 := fun (w' : World) (hg : Gr B w') => (gB.trans hg).keep qz2
    have ke3 := fun (w' : World) (hg : Gr B w') => (gB.trans hg).keep qz3
    have ke4 := fun (w' : World) (hg : Gr B w') => (gB.trans hg).keep qz4
    have ke5 := fun (w' : World) (hg : Gr B w') => (gB.trans hg).keep qz5
    have ke6 := fun (w' : World) (hg : Gr B w') => (gB.trans hg).keep qz6
    have ke7 := fun (w' : World) (hg : Gr B w') => (gB.trans hg).keep qz7
    have ke8 := fun (w' : World) (hg : Gr B w') => (gB.trans hg).keep qz8
    have j0 : (0 : Int) ≤ (k : Int) := by omega
    have j1 : (k : Int) < (x4.length : Int) := by omega
    clear hwk hwe hq00 hq01 hq10 hq11 hq12 hq13 hq14 hq15 hq16 ox43 qz0 qz1 qz2 qz3 qz4 qz5 qz6 qz7 qz8
    go_wp2_with fail
    refine wp_region_U (fun w' => Gr B w' ∧ w'.cell? ⟨bo, 4, none⟩ = some (.slice a4 k c4)) 19 (by kernel_rfl) (⟨HG.out.drew, zo⟩) (fun hU => ?_)
    refine anyU_q 0 ?_
    try simp only [Act.put, uq1, uq2, uq3]
    refine anyU_q 2 ?_
    try simp only [Act.put, uq1, uq2, uq3]
    refine anyU_q 4 ?_
    try simp only [Act.put, uq1, uq2, uq3]
    refine anyU_q 8 ?_
    try simp only [Act.put, uq1, uq2, uq3]
    refine anyU_q 10 ?_
    try simp only [Act.put, uq1, uq2, uq3]
    refine anyU_q 1 ?_
    try simp only [Act.put, uq1, uq2, uq3]
    refine anyU_q 3 ?_
    try simp only [Act.put, uq1, uq2, uq3]
    refine anyU_q 9 ?_
    try simp only [Act.put, uq1, uq2, uq3]
    refine anyU_q 5 ?_
    try simp only [Act.put, uq1, uq2, uq3]
    refine anyU_q 11 ?_
    try simp only [Act.put, uq1, uq2, uq3]
    refine anyU_q 6 ?_
    try simp only [Act.put, uq1, uq2, uq3]
    refine anyU_q 12 ?_
    try simp only [Act.put, uq1, uq2, uq3]
    refine anyU_q 7 ?_
    try simp only [Act.put, uq1, uq2, uq3]
    refine anyU_q 13 ?_
    try simp only [Act.put, uq1, uq2, uq3]
    refine anyU_ready (rs := [14]) (by kernel_rfl) (by simp) ?_
    refine (ReadyU.cons rfl (fun K hK => ?_) ReadyU.nil)
    go_simp
    go_at_call 126
    refine (l4Copy_any _ _ (q10, q11, q12, q13, q14, q15, q16) _ (Rd.gr HRE.out (gB.trans (HG.out.trans gd))) HWE.out).mono ?_
    rintro e w' ⟨es, fq, rfl, hr, hf, y, rfl⟩
    have HR := Lib.hid hr
    have HF1 := Lib.hid hf
    obtain ⟨r0, r1, r2, r3, r4, r5, ar6, lr6, kr6, rfl⟩ := rdExpr_shape hr
    clear hr hf
    refine hK.out _ _ ⟨HG.out.trans gd, (gd : Gr W1 (W1.drew.ext y)).keep zo⟩ (fun hU2 => ?_)
    clear hK K
    try simp only [Act.put, uq1, uq2, uq3]
    refine anyU_q 15 ?_
    try simp only [Act.put, uq1, uq2, uq3]
    refine anyU_ready (rs := [16]) (by kernel_rfl) (by simp) ?_
    refine (ReadyU.cons rfl (fun K hK => ?_) ReadyU.nil)
    go_simp
    refine hK.out _ _ ⟨HG.out.trans gd, (gd : Gr W1 ((W1.drew.ext y).alloc (.cells #[.int .i64 q00, .string q01, .int .i64 r0, .int .i64 r1, .int .i64 r2, .int .i64 r3, .string r4, .string r5, .slice ar6 lr6 kr6] 162))).keep zo⟩ (fun hU3 => ?_)
    clear hK K
    try simp only [Act.put, uq1, uq2, uq3]
    refine anyU_ready (rs := [17]) (by kernel_rfl) (by simp) ?_
    refine (ReadyU.cons rfl (fun K hK => ?_) ReadyU.nil)
    refine step_append_RB (α := GEquation d) (wg := B) (w0 := W2) (HG.out.trans gd) (by omega) (by simp; omega) (by rfl) _ _ _ (by rfl) 162 i1 (.agg #[.int .i64 0, .string ByteArray.empty, .int .i64 0, .int .i64 0, .int .i64 0, .int .i64 0, .string ByteArray.empty, .string ByteArray.empty, .slice none 0 0]) 112 Try.underlying135 HZ1.out.1 HZ1.out.2.1 HZ1.out.2.2.1 HZ1.out.2.2.2 rfl (.slice a4 k c4) fps _ (by rfl) (HO.out.gr gd) _ [fq] [((q00, q01), (q10, q11, q12, q13, q14, q15, q16))] (by rfl) (SrcR.one (w := W1.drew.ext y) (by simp) ⟨[.int .i64 q00, .string q01], _, _, fq, rfl, rfl, rdOccurrence_mk q00 q01 HA.out.1 HA.out.2, Rd.gr HR.out gd⟩) (own_apart HO.out HF1.out) (by rw [HL.out]; unfold maxLen; simp; omega) (by rw [HL.out]; simp; omega) ?_
    intro v9 w9 k1 k2 k3 k4
    obtain ⟨a9, c9, hv9⟩ := k1.form
    have hl9 : (x4.take k ++ [((q00, q01), (q10, q11, q12, q13, q14, q15, q16))]).length = k + 1 := by rw [List.length_append, HL.out]; rfl
    rw [hl9] at hv9
    subst hv9
    have kO9 := (HK.out.gr (gd : Gr W1 ((W1.drew.ext y).alloc (.cells #[.int .i64 q00, .string q01, .int .i64 r0, .int .i64 r1, .int .i64 r2, .int .i64 r3, .string r4, .string r5, .slice ar6 lr6 kr6] 162)))).wr k2 (own_new HO.out hlO)
    have s9 := (HS.out.gr (gd : Gr W1 ((W1.drew.ext y).alloc (.cells #[.int .i64 q00, .string q01, .int .i64 r0, .int .i64 r1, .int .i64 r2, .int .i64 r3, .string r4, .string r5, .slice ar6 lr6 kr6] 162)))).wr k2 (fun c hc => own_new HO.out (HSO.out.lt c hc))
    have z9 := k2.size
    have zo9 : w9.cell? ⟨bo, 4, none⟩ = some (.slice a4 k c4) := kO9.cell (k := 4) (by simp)
    have zf9 := kO9.frozen 4
    have zb9 := blk zo9
    have K1 := Lib.hid k1
    have K4 := Lib.hid k4
    have KO9 := Lib.hid kO9
    have S9 := Lib.hid s9
    clear k1 k2 k3 k4 kO9 s9 hl9
    refine hK.out _ _ ⟨K4.out, zo9⟩ (fun hU4 => ?_)
    clear hK K
    try simp only [Act.put, uq1, uq2, uq3]
    refine anyU_q 18 ?_
    try simp only [Act.put, uq1, uq2, uq3]
    refine anyU_ready (rs := [19]) (by kernel_rfl) (by simp) ?_
    refine ReadyU.last rfl (fun K hK => ?_)
    go_simp
    refine hK.out _ _ ?_
    clear hK K
    try simp only [Act.put, uq1, uq2, uq3]
    refine anyU_done (by kernel_rfl) ?_ _
    go_wp2_with fail
    refine ⟨⟨k + 1, fps ++ [fq], a9, c9, by omega, Lib.hid (fresh_snoc HF.out HO.out.lt hsz HF1.out), K4.out.setCell hbo _, Lib.hid (by have := KO9.out.set 4 (.slice a9 (k + 1) c9); exact this), ?_, Lib.hid (S9.out.setAt HBN.out), by simp at z9; simp; omega, by go_num⟩, by simp [intOf]; omega⟩
    have e : x4.take (k + 1) = x4.take k ++ [((q00, q01), (q10, q11, q12, q13, q14, q15, q16))] := by rw [List.take_succ_eq_append_getElem hlt, ← HYq.out]
    rw [e]
    exact K1.out.setOld (fresh_snoc HF.out HO.out.lt hsz HF1.out) hlO
   ·have hk2 : k = x4.length := by omega
    subst hk2
    have hfr4 := HO.out.fresh (by rw [HL.out]; unfold reachLen; omega) HF.out
    rw [List.take_length] at hfr4
    obtain ⟨fp4, s4, fr4⟩ := hfr4
    have HS4 := Lib.hid s4
    have HF4 := Lib.hid fr4
    have hbl : bo < W1.heap.size := by omega
    have hsz1 := hsz
    have hb4 : bo ∉ fp4 := fun hm => by have := fr4.2 _ hm; omega
    have HB4 := Lib.hid hb4
    have HS4L := Lib.hid s4.lt
    clear s4 fr4 hb4 HO HF HL
    go_wp2_with fail
    go_loopw [5, 6] (fun s5 s6 wr => ∃ (k : Nat) (fps : List (List Nat)) (a5 : Option Addr) (c5 : Nat), k ≤ x5.length ∧ Hid (Fresh W1 fps.flatten) ∧ Gr B wr ∧ Hid (VRow wr bo 138 [.string x0, .string x1, .slice a2 x2.length c2, .bool x3, .slice a4 x4.length c4, .slice a5 k c5]) ∧ OwnR W1 165 wr (.slice a5 k c5) fps (x5.take k) ∧ Hid (SlR fq2 wr (.slice a2 x2.length c2) x2) ∧ Hid (SlR fp4 wr (.slice a4 x4.length c4) x4) ∧ W1.heap.size ≤ wr.heap.size ∧ s5 = .int .i64 k) (fun s5 _ _ => x5.length - (intOf s5).toNat)
    case atStart => exact ⟨0, [], none, 0, by omega, Lib.hid (by simpa using Fresh.nil W1), HG.out, HK, OwnR.nil W1 W1 165, HS, HS4, by omega, rfl⟩
    case round =>
     obtain ⟨k, fps, a5, c5, hk, HF, hg, HK, hown, HS, HS4, hsz, rfl⟩ := hrel
     rename World => W3
     have HG := Lib.hid hg
     have HO := Lib.hid hown
     have hLl : (x5.take k).length = k := by simp; omega
     have HL := Lib.hid hLl
     have y5 := bB5 _ hg
     have zx := blk y5
     have zo : W3.cell? ⟨bo, 5, none⟩ = some (.slice a5 k c5) := HK.out.cell (k := 5) (by simp)
     have zob := blk zo
     clear hg hown hLl
     by_cases hlt : k < x5.length
     ·have hwk : wtContribution x5[k] ≤ 1048576 := Nat.le_trans (wtL_at wtContribution x5 hlt) HWT.out.2.2
      have hgw := gB.trans HG.out
      obtain ⟨b, off, rfl, hbb⟩ := ox53 k hlt
      obtain ⟨csq, feq, hcq, hrq, -⟩ := hx5.at hlt
      obtain ⟨yq, hyq⟩ : ∃ y, y = x5[k] := ⟨_, rfl⟩
      rw [← hyq] at hrq
      have HYq := Lib.hid hyq
      have HRq := Lib.hid hrq
      obtain ⟨q0, q1, ⟨q20, q21, q22, q23, q24, q25, q26⟩, ⟨q30, q31, q32, q33, q34, q35, q36⟩⟩ := yq
      obtain ⟨vq26, fq26, vq36, fq36, hcsq, -, hq0, hq1, hq20, hq21, hq22, hq23, hq24, hq25, hq26, hq30, hq31, hq32, hq33, hq34, hq35, hq36⟩ := rdContribution_inv (cs := csq.toArray) q0 q1 q20 q21 q22 q23 q24 q25 q26 q30 q31 q32 q33 q34 q35 q36 (by simpa using hrq)
      obtain rfl : csq = [.string q0, .string q1, .int .i64 q20, .int .i64 q21, .int .i64 q22, .int .i64 q23, .string q24, .string q25, vq26, .int .i64 q30, .int .i64 q31, .int .i64 q32, .int .i64 q33, .string q34, .string q35, vq36] := by have := congrArg Array.toList hcsq; simpa using this
      obtain ⟨aq26, kq26, rfl, oq261, oq262, oq263⟩ := hq26.open
      obtain ⟨aq36, kq36, rfl, oq361, oq362, oq363⟩ := hq36.open
      have qz0 := hgw.keep (show w.cell? ⟨b, off + k * 16, none⟩ = some (.string q0) from by simpa [Rd.n] using hcq 0 _ rfl)
      have qz1 := hgw.keep (show w.cell? ⟨b, off + k * 16 + 1, none⟩ = some (.string q1) from hcq 1 _ rfl)
      have qz2 := hgw.keep (show w.cell? ⟨b, off + k * 16 + 2, none⟩ = some (.int .i64 q20) from hcq 2 _ rfl)
      have qz3 := hgw.keep (show w.cell? ⟨b, off + k * 16 + 3, none⟩ = some (.int .i64 q21) from hcq 3 _ rfl)
      have qz4 := hgw.keep (show w.cell? ⟨b, off + k * 16 + 4, none⟩ = some (.int .i64 q22) from hcq 4 _ rfl)
      have qz5 := hgw.keep (show w.cell? ⟨b, off + k * 16 + 5, none⟩ = some (.int .i64 q23) from hcq 5 _ rfl)
      have qz6 := hgw.keep (show w.cell? ⟨b, off + k * 16 + 6, none⟩ = some (.string q24) from hcq 6 _ rfl)
      have qz7 := hgw.keep (show w.cell? ⟨b, off + k * 16 + 7, none⟩ = some (.string q25) from hcq 7 _ rfl)
      have qz8 := hgw.keep (show w.cell? ⟨b, off + k * 16 + 8, none⟩ = some (.slice aq26 q26.length kq26) from hcq 8 _ rfl)
      have qz9 := hgw.keep (show w.cell? ⟨b, off + k * 16 + 9, none⟩ = some (.int .i64 q30) from hcq 9 _ rfl)
      have qz10 := hgw.keep (show w.cell? ⟨b, off + k * 16 + 10, none⟩ = some (.int .i64 q31) from hcq 10 _ rfl)
      have qz11 := hgw.keep (show w.cell? ⟨b, off + k * 16 + 11, none⟩ = some (.int .i64 q32) from hcq 11 _ rfl)
      have qz12 := hgw.keep (show w.cell? ⟨b, off + k * 16 + 12, none⟩ = some (.int .i64 q33) from hcq 12 _ rfl)
      have qz13 := hgw.keep (show w.cell? ⟨b, off + k * 16 + 13, none⟩ = some (.string q34) from hcq 13 _ rfl)
      have qz14 := hgw.keep (show w.cell? ⟨b, off + k * 16 + 14, none⟩ = some (.string q35) from hcq 14 _ rfl)
      have qz15 := hgw.keep (show w.cell? ⟨b, off + k * 16 + 15, none⟩ = some (.slice aq36 q36.length kq36) from hcq 15 _ rfl)
      have qzb := blk qz0
      clear hcsq hcq hrq hyq
      rw [← HYq.out] at hwk
      have hwe : wtExpr (q20, q21, q22, q23, q24, q25, q26) ≤ 1048576 ∧ wtExpr (q30, q31, q32, q33, q34, q35, q36) ≤ 1048576 := by
       have h : q0.size + q1.size + wtExpr (q20, q21, q22, q23, q24, q25, q26) + wtExpr (q30, q31, q32, q33, q34, q35, q36) ≤ 1048576 := hwk
       omega
      have HWE := Lib.hid hwe
      have HR1 := Lib.hid (rdExpr_mk q20 q21 q22 q23 q24 q25 q26 hq20 hq21 hq22 hq23 hq24 hq25 hq26)
      have HR2 := Lib.hid (rdExpr_mk q30 q31 q32 q33 q34 q35 q36 hq30 hq31 hq32 hq33 hq34 hq35 hq36)
      have HA := Lib.hid (And.intro hq0 hq1)
      have HGW := Lib.hid hgw
      have j0 : (0 : Int) ≤ (k : Int) := by omega
      have j1 : (k : Int) < (x5.length : Int) := by omega
      clear hwk hwe hgw hq0 hq1 hq20 hq21 hq22 hq23 hq24 hq25 hq26 hq30 hq31 hq32 hq33 hq34 hq35 hq36 ox53
      go_wp2_with fail
      generalize hW5 : W3.alloc (.cells #[.string q0, .string q1, .int .i64 q20, .int .i64 q21, .int .i64 q22, .int .i64 q23, .string q24, .string q25, .slice aq26 q26.length kq26, .int .i64 q30, .int .i64 q31, .int .i64 q32, .int .i64 q33, .string q34, .string q35, .slice aq36 q36.length kq36] 165) = W5
      have g5 : Gr W3 W5 := by rw [← hW5]; exact gd
      have s5 : W5.heap.size = W3.heap.size + 1 := by rw [← hW5]; simp
      have hnp : W3.heap.size ∉ (Value.slice a5 k c5).ownBlock.toList := fun hm => by have := (HO.out.base _ (by simpa using hm)).2; omega
      have HNP := Lib.hid hnp
      have HNO := Lib.hid (own_new HO.out hbl)
      have kp0' : W5.cell? ⟨W3.heap.size, 0, none⟩ = some (.string q0) := by rw [← hW5]; exact box_cell rfl rfl
      have kp0 := fun (w' : World) (h : Wr (Value.slice a5 k c5).ownBlock.toList W5 w') => h.keepC kp0' HNP.out
      clear kp0'
      have kp1' : W5.cell? ⟨W3.heap.size, 1, none⟩ = some (.string q1) := by rw [← hW5]; exact box_cell rfl rfl
      have kp1 := fun (w' : World) (h : Wr (Value.slice a5 k c5).ownBlock.toList W5 w') => h.keepC kp1' HNP.out
      clear kp1'
      have kp2' : W5.cell? ⟨W3.heap.size, 2, none⟩ = some (.int .i64 q20) := by rw [← hW5]; exact box_cell rfl rfl
      have kp2 := fun (w' : World) (h : Wr (Value.slice a5 k c5).ownBlock.toList W5 w') => h.keepC kp2' HNP.out
      clear kp2'
      have kp3' : W5.cell? ⟨W3.heap.size, 3, none⟩ = some (.int .i64 q21) := by rw [← hW5]; exact box_cell rfl rfl
      have kp3 := fun (w' : World) (h : Wr (Value.slice a5 k c5).ownBlock.toList W5 w') => h.keepC kp3' HNP.out
      clear kp3'
      have kp4' : W5.cell? ⟨W3.heap.size, 4, none⟩ = some (.int .i64 q22) := by rw [← hW5]; exact box_cell rfl rfl
      have kp4 := fun (w' : World) (h : Wr (Value.slice a5 k c5).ownBlock.toList W5 w') => h.keepC kp4' HNP.out
      clear kp4'
      have kp5' : W5.cell? ⟨W3.heap.size, 5, none⟩ = some (.int .i64 q23) := by rw [← hW5]; exact box_cell rfl rfl
      have kp5 := fun (w' : World) (h : Wr (Value.slice a5 k c5).ownBlock.toList W5 w') => h.keepC kp5' HNP.out
      clear kp5'
      have kp6' : W5.cell? ⟨W3.heap.size, 6, none⟩ = some (.string q24) := by rw [← hW5]; exact box_cell rfl rfl
      have kp6 := fun (w' : World) (h : Wr (Value.slice a5 k c5).ownBlock.toList W5 w') => h.keepC kp6' HNP.out
      clear kp6'
      have kp7' : W5.cell? ⟨W3.heap.size, 7, none⟩ = some (.string q25) := by rw [← hW5]; exact box_cell rfl rfl
      have kp7 := fun (w' : World) (h : Wr (Value.slice a5 k c5).ownBlock.toList W5 w') => h.keepC kp7' HNP.out
      clear kp7'
      have kp8' : W5.cell? ⟨W3.heap.size, 8, none⟩ = some (.slice aq26 q26.length kq26) := by rw [← hW5]; exact box_cell rfl rfl
      have kp8 := fun (w' : World) (h : Wr (Value.slice a5 k c5).ownBlock.toList W5 w') => h.keepC kp8' HNP.out
      clear kp8'
      have kp9' : W5.cell? ⟨W3.heap.size, 9, none⟩ = some (.int .i64 q30) := by rw [← hW5]; exact box_cell rfl rfl
      have kp9 := fun (w' : World) (h : Wr (Value.slice a5 k c5).ownBlock.toList W5 w') => h.keepC kp9' HNP.out
      clear kp9'
      have kp10' : W5.cell? ⟨W3.heap.size, 10, none⟩ = some (.int .i64 q31) := by rw [← hW5]; exact box_cell rfl rfl
      have kp10 := fun (w' : World) (h : Wr (Value.slice a5 k c5).ownBlock.toList W5 w') => h.keepC kp10' HNP.out
      clear kp10'
      have kp11' : W5.cell? ⟨W3.heap.size, 11, none⟩ = some (.int .i64 q32) := by rw [← hW5]; exact box_cell rfl rfl
      have kp11 := fun (w' : World) (h : Wr (Value.slice a5 k c5).ownBlock.toList W5 w') => h.keepC kp11' HNP.out
      clear kp11'
      have kp12' : W5.cell? ⟨W3.heap.size, 12, none⟩ = some (.int .i64 q33) := by rw [← hW5]; exact box_cell rfl rfl
      have kp12 := fun (w' : World) (h : Wr (Value.slice a5 k c5).ownBlock.toList W5 w') => h.keepC kp12' HNP.out
      clear kp12'
      have kp13' : W5.cell? ⟨W3.heap.size, 13, none⟩ = some (.string q34) := by rw [← hW5]; exact box_cell rfl rfl
      have kp13 := fun (w' : World) (h : Wr (Value.slice a5 k c5).ownBlock.toList W5 w') => h.keepC kp13' HNP.out
      clear kp13'
      have kp14' : W5.cell? ⟨W3.heap.size, 14, none⟩ = some (.string q35) := by rw [← hW5]; exact box_cell rfl rfl
      have kp14 := fun (w' : World) (h : Wr (Value.slice a5 k c5).ownBlock.toList W5 w') => h.keepC kp14' HNP.out
      clear kp14'
      have kp15' : W5.cell? ⟨W3.heap.size, 15, none⟩ = some (.slice aq36 q36.length kq36) := by rw [← hW5]; exact box_cell rfl rfl
      have kp15 := fun (w' : World) (h : Wr (Value.slice a5 k c5).ownBlock.toList W5 w') => h.keepC kp15' HNP.out
      clear kp15'
      have zo5 := g5.keep zo
      have kpo := fun (w' : World) (h : Wr (Value.slice a5 k c5).ownBlock.toList W5 w') => h.keepC zo5 HNO.out
      have HG5 := Lib.hid g5
      clear hW5 hnp g5
      refine wp_region_U (fun w' => Wr (Value.slice a5 k c5).ownBlock.toList W5 w' ∧ Gr B w') 16 (by kernel_rfl) (⟨(Gr.drew (Gr.refl W5)).toWr _, HG.out.trans (HG5.out.trans (Gr.drew (Gr.refl W5)))⟩) (fun hU => ?_)
      refine anyU_q 0 ?_
      try simp only [Act.put, uq1, uq2, uq3]
      refine anyU_q 2 ?_
      try simp only [Act.put, uq1, uq2, uq3]
      refine anyU_q 4 ?_
      try simp only [Act.put, uq1, uq2, uq3]
      refine anyU_q 6 ?_
      try simp only [Act.put, uq1, uq2, uq3]
      refine anyU_q 9 ?_
      try simp only [Act.put, uq1, uq2, uq3]
      refine anyU_q 1 ?_
      try simp only [Act.put, uq1, uq2, uq3]
      refine anyU_q 3 ?_
      try simp only [Act.put, uq1, uq2, uq3]
      refine anyU_q 5 ?_
      try simp only [Act.put, uq1, uq2, uq3]
      refine anyU_q 7 ?_
      try simp only [Act.put, uq1, uq2, uq3]
      refine anyU_q 10 ?_
      try simp only [Act.put, uq1, uq2, uq3]
      refine anyU_ready (rs := [8]) (by kernel_rfl) (by simp) ?_
      refine (ReadyU.cons rfl (fun K hK => ?_) ReadyU.nil)
      go_simp
      go_at_call 126
      refine (l4Copy_any _ _ (q20, q21, q22, q23, q24, q25, q26) _ (Rd.gr HR1.out (HGW.out.trans (HG5.out.trans gd))) HWE.out.1).mono ?_
      rintro e w' ⟨es, fq, rfl, hr, hf, y, rfl⟩
      have HRA := Lib.hid hr
      have HFA := Lib.hid hf
      obtain ⟨r0, r1, r2, r3, r4, r5, ar6, lr6, kr6, rfl⟩ := rdExpr_shape hr
      clear hr hf
      refine hK.out _ _ ⟨(gd : Gr W5 (W5.drew.ext y)).toWr _, HG.out.trans (HG5.out.trans gd)⟩ (fun hU2 => ?_)
      clear hK K
      try simp only [Act.put, uq1, uq2, uq3]
      refine anyU_ready (rs := [11]) (by kernel_rfl) (by simp) ?_
      refine (ReadyU.cons rfl (fun K hK => ?_) ReadyU.nil)
      go_simp
      go_at_call 126
      refine (l4Copy_any _ _ (q30, q31, q32, q33, q34, q35, q36) _ (Rd.gr HR2.out (HGW.out.trans (HG5.out.trans gd))) HWE.out.2).mono ?_
      rintro e w' ⟨es2, fq5, rfl, hr, hf, y2, rfl⟩
      have HRB := Lib.hid hr
      have HFB := Lib.hid hf
      obtain ⟨p0, p1, p2, p3, p4, p5, ap6, lp6, kp6, rfl⟩ := rdExpr_shape hr
      clear hr hf
      refine hK.out _ _ ⟨(gd : Gr W5 ((W5.drew.ext y).ext y2)).toWr _, HG.out.trans (HG5.out.trans gd)⟩ (fun hU3 => ?_)
      clear hK K
      try simp only [Act.put, uq1, uq2, uq3]
      refine anyU_q 12 ?_
      try simp only [Act.put, uq1, uq2, uq3]
      refine anyU_ready (rs := [13]) (by kernel_rfl) (by simp) ?_
      refine (ReadyU.cons rfl (fun K hK => ?_) ReadyU.nil)
      go_simp
      refine hK.out _ _ ⟨(gd : Gr W5 (((W5.drew.ext y).ext y2).alloc (.cells #[.string q0, .string q1, .int .i64 r0, .int .i64 r1, .int .i64 r2, .int .i64 r3, .string r4, .string r5, .slice ar6 lr6 kr6, .int .i64 p0, .int .i64 p1, .int .i64 p2, .int .i64 p3, .string p4, .string p5, .slice ap6 lp6 kp6] 165))).toWr _, HG.out.trans (HG5.out.trans gd)⟩ (fun hU4 => ?_)
      clear hK K
      try simp only [Act.put, uq1, uq2, uq3]
      refine anyU_ready (rs := [14]) (by kernel_rfl) (by simp) ?_
      refine (ReadyU.cons rfl (fun K hK => ?_) ReadyU.nil)
      have hff : Fresh W5 (fq ++ fq5) := HFA.out.append (w1 := W5.drew.ext y) (by simp) (fun c hc => Rd.lt HRA.out c hc) HFB.out
      have HFF := Lib.hid hff
      clear hff
      refine step_append_RB (α := GContribution d) (wg := B) (w0 := W1) (HG.out.trans (HG5.out.trans gd)) (by omega) (by simp; omega) (by rfl) _ _ _ (by rfl) 165 i2 (.agg #[.string ByteArray.empty, .string ByteArray.empty, .int .i64 0, .int .i64 0, .int .i64 0, .int .i64 0, .string ByteArray.empty, .string ByteArray.empty, .slice none 0 0, .int .i64 0, .int .i64 0, .int .i64 0, .int .i64 0, .string ByteArray.empty, .string ByteArray.empty, .slice none 0 0]) 208 Try.underlying136 HZ2.out.1 HZ2.out.2.1 HZ2.out.2.2.1 HZ2.out.2.2.2 rfl (.slice a5 k c5) fps _ (by rfl) (HO.out.gr (HG5.out.trans gd)) _ [fq ++ fq5] [(q0, q1, (q20, q21, q22, q23, q24, q25, q26), (q30, q31, q32, q33, q34, q35, q36))] (by rfl) (SrcR.one (w := (W5.drew.ext y).ext y2) (by simp; omega) ⟨[.string q0], _, [], fq ++ fq5, rfl, rfl, ⟨rfl, rfl, HA.out.1⟩, ⟨[.string q1], _, [], fq ++ fq5, rfl, rfl, ⟨rfl, rfl, HA.out.2⟩, ⟨_, _, fq, fq5, rfl, rfl, Rd.gr HRA.out gd, Rd.gr HRB.out gd⟩⟩⟩) (own_apart (HO.out.gr HG5.out) HFF.out) (by rw [HL.out]; unfold maxLen; simp; omega) (by rw [HL.out]; simp; omega) ?_
      intro v9 w9 k1 k2 k3 k4
      obtain ⟨a9, c9, hv9⟩ := k1.form
      have hl9 : (x5.take k ++ [(q0, q1, (q20, q21, q22, q23, q24, q25, q26), (q30, q31, q32, q33, q34, q35, q36))]).length = k + 1 := by rw [List.length_append, HL.out]; rfl
      rw [hl9] at hv9
      subst hv9
      have g35 : Gr W3 (((W5.drew.ext y).ext y2).alloc (.cells #[.string q0, .string q1, .int .i64 r0, .int .i64 r1, .int .i64 r2, .int .i64 r3, .string r4, .string r5, .slice ar6 lr6 kr6, .int .i64 p0, .int .i64 p1, .int .i64 p2, .int .i64 p3, .string p4, .string p5, .slice ap6 lp6 kp6] 165)) := HG5.out.trans gd
      have kO9 := (HK.out.gr g35).wr k2 HNO.out
      have s9 := (HS.out.gr g35).wr k2 (fun c hc => own_new HO.out (by have := HSO.out.lt c hc; omega))
      have s49 := (HS4.out.gr g35).wr k2 (fun c hc => own_new HO.out (show c < W1.heap.size from by have := HS4L.out c hc; omega))
      have z9 := k2.size
      have hw9 : Wr (Value.slice a5 k c5).ownBlock.toList W5 w9 := ((gd : Gr W5 (((W5.drew.ext y).ext y2).alloc (.cells #[.string q0, .string q1, .int .i64 r0, .int .i64 r1, .int .i64 r2, .int .i64 r3, .string r4, .string r5, .slice ar6 lr6 kr6, .int .i64 p0, .int .i64 p1, .int .i64 p2, .int .i64 p3, .string p4, .string p5, .slice ap6 lp6 kp6] 165))).toWr _).trans k2
      have zo9 : w9.cell? ⟨bo, 5, none⟩ = some (.slice a5 k c5) := kO9.cell (k := 5) (by simp)
      have zf9 := kO9.frozen 5
      have zb9 := blk zo9
      have K1 := Lib.hid k1
      have K4 := Lib.hid k4
      have KO9 := Lib.hid kO9
      have S9 := Lib.hid s9
      have S49 := Lib.hid s49
      have HW9 := Lib.hid hw9
      clear k1 k2 k3 k4 kO9 s9 s49 hl9 g35 hw9
      refine hK.out _ _ ⟨HW9.out, K4.out⟩ (fun hU5 => ?_)
      clear hK K
      try simp only [Act.put, uq1, uq2, uq3]
      refine anyU_q 15 ?_
      try simp only [Act.put, uq1, uq2, uq3]
      refine anyU_ready (rs := [16]) (by kernel_rfl) (by simp) ?_
      refine ReadyU.last rfl (fun K hK => ?_)
      go_simp
      refine hK.out _ _ ?_
      clear hK K
      try simp only [Act.put, uq1, uq2, uq3]
      refine anyU_done (by kernel_rfl) ?_ _
      go_wp2_with fail
      refine ⟨⟨k + 1, fps ++ [fq ++ fq5], a9, c9, by omega, Lib.hid (fresh_snoc HF.out HO.out.lt hsz (HFF.out.of_le HG5.out.size)), K4.out.setCell hbo _, Lib.hid (by have := KO9.out.set 5 (.slice a9 (k + 1) c9); exact this), ?_, Lib.hid (S9.out.setAt HBN.out), Lib.hid (S49.out.setAt HB4.out), by simp at z9; simp; omega, by go_num⟩, by simp [intOf]; omega⟩
      have e : x5.take (k + 1) = x5.take k ++ [(q0, q1, (q20, q21, q22, q23, q24, q25, q26), (q30, q31, q32, q33, q34, q35, q36))] := by rw [List.take_succ_eq_append_getElem hlt, ← HYq.out]
      rw [e]
      exact K1.out.setOld (fresh_snoc HF.out HO.out.lt hsz (HFF.out.of_le HG5.out.size)) hbl
     ·have hk2 : k = x5.length := by omega
      subst hk2
      have hfr5 := HO.out.fresh (by rw [HL.out]; unfold reachLen; omega) HF.out
      rw [List.take_length] at hfr5
      obtain ⟨fp5, s5, fr5⟩ := hfr5
      have HS5 := Lib.hid s5
      have HF5 := Lib.hid fr5
      obtain ⟨y, rfl⟩ := HG.out
      have c0 := HK.out.cell (k := 0) (by simp)
      have c1 := HK.out.cell (k := 1) (by simp)
      have c2' := HK.out.cell (k := 2) (by simp)
      have c3 := HK.out.cell (k := 3) (by simp)
      have c4' := HK.out.cell (k := 4) (by simp)
      have c5' := HK.out.cell (k := 5) (by simp)
      simp only [List.getElem_cons_zero, List.getElem_cons_succ] at c0 c1 c2' c3 c4' c5'
      have hff : Fresh w (fq2 ++ (fp4 ++ fp5)) := (HFO.out.of_le gB.size).append (w1 := W2) (by omega) HSO.out.lt (HF4.out.append hsz1 HS4L.out HF5.out)
      have HFF := Lib.hid hff
      have F4 := Lib.hid (HF4.out.of_le hsz2)
      have F5 := Lib.hid (HF5.out.of_le (show B.heap.size ≤ W1.heap.size by omega))
      obtain rfl := EB.out
      clear s5 fr5 hff
      go_wp2_with fail
      obtain ⟨h0, h1⟩ := H0.out
      exact bodyPost_ret (v := .agg #[.string x0, .string x1, .slice a2 x2.length c2, .bool x3, .slice a4 x4.length c4, .slice a5 x5.length c5])
       (by simp [results, Try.results122, go_sem]) rfl ⟨_, _, rfl, rdRule_mk x0 x1 x2 x3 x4 x5 h0 h1 (SlR.moved HS.out HFO.out gd (by simp)) (SlR.moved HS4.out F4.out gd (by simp)) (SlR.moved HS5.out F5.out gd (by simp)), HFF.out, gd⟩
end Go.Proofs.Ytmfcagcanhmdbaa
