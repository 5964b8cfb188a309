/- IsJustified of the reference. UnjustifiedOf of the reference. No condition. -/
import Derived.Test.YtbfmeiooeaaibaaGreatXJus
import Derived.Test.YtbfmeiooeaaibaaGreatSrcS
import Derived.Test.YtbfmeiooeaaibaaGreatXUnj
namespace Go.Proofs.YtbfmeiooeaaibaaGreat
open Go.RowKit
variable {d : Nat}
set_option linter.unusedVariables false
set_option linter.unusedSimpArgs false

/-- The box of an entry that was looked for. -/
def EntBox (W : World) (o : Option GEntry) (s14 s15 : Value) (wr : World) : Prop :=
  ∃ b, s14 = .pointer (some ⟨b, 0, none⟩) ∧ s15 = .bool o.isSome ∧ Gr W wr ∧ wr.cell? ⟨b, 1 + 1, none⟩ = some (.int .i64 (o.getD zeroE).2.1)

set_option maxRecDepth 100000 in
set_option maxHeartbeats 16000000 in
theorem specJust_any {fg : List Nat} {cg : Array Value} (g : (GGrammar d)) {ft : List Nat} {ct : Array Value} (t : GTree) {fp : List Nat} {cp : Array Value} (p : GMemo) {fm : List Nat} {cm : Array Value} (m : GMemo) {fx : List Nat} {cx : Array Value} (x : GInstance) (w : World) (hg : Rd.rd fg w cg.toList g) (ht : Rd.rd ft w ct.toList t) (hp : Rd.rd fp w cp.toList p) (hm : Rd.rd fm w cm.toList m) (hx : Rd.rd fx w cx.toList x) (hl : wtGrammar g ≤ 1048576) (hl2 : wtTree t ≤ 1048576) (hl3 : wtMemo p ≤ 1048576) (hl4 : wtMemo m ≤ 1048576) :
    Calls Tryz.prog 22 #[.agg cg, .agg ct, .agg cp, .agg cm, .agg cx] w fun e w' => e = .returned (.bool (justB g t p m x)) ∧ Gr w w' := by
  have HWT := Lib.hid hl
  have HWT2 := Lib.hid hl2
  have HWP := Lib.hid hl3
  have HWM := Lib.hid hl4
  clear hl hl2 hl3 hl4
  have HG := Lib.hid hg
  obtain ⟨g0, g1⟩ := g
  obtain ⟨vg0, fg0, vg1, fg1, rfl, hfpg, hg0, hg1⟩ := rdGrammar_inv g0 g1 hg
  have FPg := Lib.hid hfpg
  clear hfpg
  obtain ⟨ag0, kg0, rfl, og01, og02, og03⟩ := hg0.open
  obtain ⟨ag1, kg1, rfl, og11, og12, og13⟩ := hg1.open
  clear hg
  have HT := Lib.hid ht
  obtain ⟨t0, rfl⟩ : ∃ y, y = t := ⟨t, rfl⟩
  obtain ⟨vt0, ft0, rfl, hfpt, ht0⟩ := rdTree_inv t0 ht
  have FPt := Lib.hid hfpt
  clear hfpt
  obtain ⟨at0, kt0, rfl, ot01, ot02, ot03⟩ := ht0.open
  clear ht
  have HP := Lib.hid hp
  obtain ⟨p0, p1⟩ := p
  obtain ⟨vp0, fp0, vp1, fp1, rfl, hfpp, hp0, hp1⟩ := rdMemo_inv p0 p1 hp
  have FPp := Lib.hid hfpp
  clear hfpp
  obtain ⟨ap0, kp0, rfl, op01, op02, op03⟩ := hp0.open
  obtain ⟨ap1, kp1, rfl, op11, op12, op13⟩ := hp1.open
  clear hp
  have HM := Lib.hid hm
  obtain ⟨m0, m1⟩ := m
  obtain ⟨vm0, fm0, vm1, fm1, rfl, hfpm, hm0, hm1⟩ := rdMemo_inv m0 m1 hm
  have FPm := Lib.hid hfpm
  clear hfpm
  obtain ⟨am0, km0, rfl, om01, om02, om03⟩ := hm0.open
  obtain ⟨am1, km1, rfl, om11, om12, om13⟩ := hm1.open
  clear hm
  have HX := Lib.hid hx
  obtain ⟨x0, x1⟩ := x
  obtain ⟨rfl, hfpx, hx0, hx1⟩ := rdInstance_inv x0 x1 hx
  have FPx := Lib.hid hfpx
  clear hfpx
  clear hx
  go_enter Tryz.func22, Tryz.ntmps22
  go_wp2_with fail
  generalize hB : (((((w.alloc (.cells #[.slice ag0 g0.length kg0, .slice ag1 g1.length kg1] 43)).alloc (.cells #[.slice at0 t0.length kt0] 47)).alloc (.cells #[.slice ap0 p0.length kp0, .slice ap1 p1.length kp1] 66)).alloc (.cells #[.slice am0 m0.length km0, .slice am1 m1.length km1] 66)).alloc (.cells #[.int .i64 x0, .string x1] 34)) = B
  have gB : Gr w B := by rw [← hB]; exact (by repeat (first | exact Gr.refl _ | apply Gr.ext | apply Gr.alloc | apply Gr.drew))
  have bB0 : ∀ w' : World, Gr B w' → w'.cell? ⟨w.heap.size, 0, none⟩ = some (.slice ag0 g0.length kg0) := fun w' hg => hg.keep (by rw [← hB]; repeat (first | ((with_reducible refine box_cell ?_ ?_) <;> first | omega | (simp; done) | (simp; omega) | rfl) | (with_reducible refine Gr.keep (Gr.alloc (Gr.refl _) _) ?_) | (with_reducible refine Gr.keep (Gr.ext (Gr.refl _) _) ?_) | (with_reducible refine Gr.keep (Gr.drew (Gr.refl _)) ?_)))
  have bB1 : ∀ w' : World, Gr B w' → w'.cell? ⟨w.heap.size, 1, none⟩ = some (.slice ag1 g1.length kg1) := fun w' hg => hg.keep (by rw [← hB]; repeat (first | ((with_reducible refine box_cell ?_ ?_) <;> first | omega | (simp; done) | (simp; omega) | rfl) | (with_reducible refine Gr.keep (Gr.alloc (Gr.refl _) _) ?_) | (with_reducible refine Gr.keep (Gr.ext (Gr.refl _) _) ?_) | (with_reducible refine Gr.keep (Gr.drew (Gr.refl _)) ?_)))
  have bB2 : ∀ w' : World, Gr B w' → w'.cell? ⟨w.heap.size + 1, 0, none⟩ = some (.slice at0 t0.length kt0) := fun w' hg => hg.keep (by rw [← hB]; repeat (first | ((with_reducible refine box_cell ?_ ?_) <;> first | omega | (simp; done) | (simp; omega) | rfl) | (with_reducible refine Gr.keep (Gr.alloc (Gr.refl _) _) ?_) | (with_reducible refine Gr.keep (Gr.ext (Gr.refl _) _) ?_) | (with_reducible refine Gr.keep (Gr.drew (Gr.refl _)) ?_)))
  have bB3 : ∀ w' : World, Gr B w' → w'.cell? ⟨w.heap.size + 1 + 1, 0, none⟩ = some (.slice ap0 p0.length kp0) := fun w' hg => hg.keep (by rw [← hB]; repeat (first | ((with_reducible refine box_cell ?_ ?_) <;> first | omega | (simp; done) | (simp; omega) | rfl) | (with_reducible refine Gr.keep (Gr.alloc (Gr.refl _) _) ?_) | (with_reducible refine Gr.keep (Gr.ext (Gr.refl _) _) ?_) | (with_reducible refine Gr.keep (Gr.drew (Gr.refl _)) ?_)))
  have bB4 : ∀ w' : World, Gr B w' → w'.cell? ⟨w.heap.size + 1 + 1, 1, none⟩ = some (.slice ap1 p1.length kp1) := fun w' hg => hg.keep (by rw [← hB]; repeat (first | ((with_reducible refine box_cell ?_ ?_) <;> first | omega | (simp; done) | (simp; omega) | rfl) | (with_reducible refine Gr.keep (Gr.alloc (Gr.refl _) _) ?_) | (with_reducible refine Gr.keep (Gr.ext (Gr.refl _) _) ?_) | (with_reducible refine Gr.keep (Gr.drew (Gr.refl _)) ?_)))
  have bB5 : ∀ w' : World, Gr B w' → w'.cell? ⟨w.heap.size + 1 + 1 + 1, 0, none⟩ = some (.slice am0 m0.length km0) := fun w' hg => hg.keep (by rw [← hB]; repeat (first | ((with_reducible refine box_cell ?_ ?_) <;> first | omega | (simp; done) | (simp; omega) | rfl) | (with_reducible refine Gr.keep (Gr.alloc (Gr.refl _) _) ?_) | (with_reducible refine Gr.keep (Gr.ext (Gr.refl _) _) ?_) | (with_reducible refine Gr.keep (Gr.drew (Gr.refl _)) ?_)))
  have bB6 : ∀ w' : World, Gr B w' → w'.cell? ⟨w.heap.size + 1 + 1 + 1, 1, none⟩ = some (.slice am1 m1.length km1) := fun w' hg => hg.keep (by rw [← hB]; repeat (first | ((with_reducible refine box_cell ?_ ?_) <;> first | omega | (simp; done) | (simp; omega) | rfl) | (with_reducible refine Gr.keep (Gr.alloc (Gr.refl _) _) ?_) | (with_reducible refine Gr.keep (Gr.ext (Gr.refl _) _) ?_) | (with_reducible refine Gr.keep (Gr.drew (Gr.refl _)) ?_)))
  have bB7 : ∀ w' : World, Gr B w' → w'.cell? ⟨w.heap.size + 1 + 1 + 1 + 1, 0, none⟩ = some (.int .i64 x0) := fun w' hg => hg.keep (by rw [← hB]; repeat (first | ((with_reducible refine box_cell ?_ ?_) <;> first | omega | (simp; done) | (simp; omega) | rfl) | (with_reducible refine Gr.keep (Gr.alloc (Gr.refl _) _) ?_) | (with_reducible refine Gr.keep (Gr.ext (Gr.refl _) _) ?_) | (with_reducible refine Gr.keep (Gr.drew (Gr.refl _)) ?_)))
  have bB8 : ∀ w' : World, Gr B w' → w'.cell? ⟨w.heap.size + 1 + 1 + 1 + 1, 1, none⟩ = some (.string x1) := fun w' hg => hg.keep (by rw [← hB]; repeat (first | ((with_reducible refine box_cell ?_ ?_) <;> first | omega | (simp; done) | (simp; omega) | rfl) | (with_reducible refine Gr.keep (Gr.alloc (Gr.refl _) _) ?_) | (with_reducible refine Gr.keep (Gr.ext (Gr.refl _) _) ?_) | (with_reducible refine Gr.keep (Gr.drew (Gr.refl _)) ?_)))
  have bB9 : ∀ w' : World, Gr B w' → w'.cell? ⟨w.heap.size + 2, 0, none⟩ = some (.slice ap0 p0.length kp0) := fun w' hg => hg.keep (by rw [← hB]; repeat (first | ((with_reducible refine box_cell ?_ ?_) <;> first | omega | (simp; done) | (simp; omega) | rfl) | (with_reducible refine Gr.keep (Gr.alloc (Gr.refl _) _) ?_) | (with_reducible refine Gr.keep (Gr.ext (Gr.refl _) _) ?_) | (with_reducible refine Gr.keep (Gr.drew (Gr.refl _)) ?_)))
  have bB10 : ∀ w' : World, Gr B w' → w'.cell? ⟨w.heap.size + 2, 1, none⟩ = some (.slice ap1 p1.length kp1) := fun w' hg => hg.keep (by rw [← hB]; repeat (first | ((with_reducible refine box_cell ?_ ?_) <;> first | omega | (simp; done) | (simp; omega) | rfl) | (with_reducible refine Gr.keep (Gr.alloc (Gr.refl _) _) ?_) | (with_reducible refine Gr.keep (Gr.ext (Gr.refl _) _) ?_) | (with_reducible refine Gr.keep (Gr.drew (Gr.refl _)) ?_)))
  have bB11 : ∀ w' : World, Gr B w' → w'.cell? ⟨w.heap.size + 3, 0, none⟩ = some (.slice am0 m0.length km0) := fun w' hg => hg.keep (by rw [← hB]; repeat (first | ((with_reducible refine box_cell ?_ ?_) <;> first | omega | (simp; done) | (simp; omega) | rfl) | (with_reducible refine Gr.keep (Gr.alloc (Gr.refl _) _) ?_) | (with_reducible refine Gr.keep (Gr.ext (Gr.refl _) _) ?_) | (with_reducible refine Gr.keep (Gr.drew (Gr.refl _)) ?_)))
  have bB12 : ∀ w' : World, Gr B w' → w'.cell? ⟨w.heap.size + 3, 1, none⟩ = some (.slice am1 m1.length km1) := fun w' hg => hg.keep (by rw [← hB]; repeat (first | ((with_reducible refine box_cell ?_ ?_) <;> first | omega | (simp; done) | (simp; omega) | rfl) | (with_reducible refine Gr.keep (Gr.alloc (Gr.refl _) _) ?_) | (with_reducible refine Gr.keep (Gr.ext (Gr.refl _) _) ?_) | (with_reducible refine Gr.keep (Gr.drew (Gr.refl _)) ?_)))
  have bB13 : ∀ w' : World, Gr B w' → w'.cell? ⟨w.heap.size + 4, 0, none⟩ = some (.int .i64 x0) := fun w' hg => hg.keep (by rw [← hB]; repeat (first | ((with_reducible refine box_cell ?_ ?_) <;> first | omega | (simp; done) | (simp; omega) | rfl) | (with_reducible refine Gr.keep (Gr.alloc (Gr.refl _) _) ?_) | (with_reducible refine Gr.keep (Gr.ext (Gr.refl _) _) ?_) | (with_reducible refine Gr.keep (Gr.drew (Gr.refl _)) ?_)))
  have bB14 : ∀ w' : World, Gr B w' → w'.cell? ⟨w.heap.size + 4, 1, none⟩ = some (.string x1) := fun w' hg => hg.keep (by rw [← hB]; repeat (first | ((with_reducible refine box_cell ?_ ?_) <;> first | omega | (simp; done) | (simp; omega) | rfl) | (with_reducible refine Gr.keep (Gr.alloc (Gr.refl _) _) ?_) | (with_reducible refine Gr.keep (Gr.ext (Gr.refl _) _) ?_) | (with_reducible refine Gr.keep (Gr.drew (Gr.refl _)) ?_)))
  have sB : B.heap.size = w.heap.size + 5 := by rw [← hB]; first | (simp; done) | (simp; omega)
  have EB := Lib.hid hB
  clear hB
  have HSB := Lib.hid sB
  clear sB
  refine (specFind_any _ _ _ _ (p0, p1) (x0, x1) _ (Rd.gr HP.out gB) (Rd.gr HX.out gB) HWP.out).mono ?_
  rintro e W1 ⟨es, fq, rfl, hr, -, g1'⟩
  obtain ⟨yr, hyr⟩ : ∃ y, y = (lookE p0 (x0, x1)).getD zeroE := ⟨_, rfl⟩; have hr1r := hr; change Rd.rd fq _ es.toList ((lookE p0 (x0, x1)).getD zeroE) at hr1r; rw [← hyr] at hr1r; have HYr := Lib.hid hyr; have HRr := Lib.hid hr1r; obtain ⟨⟨r00, r01⟩, r1, r2, r3, r4, r5, r6, r7⟩ := yr; obtain ⟨vr5, fr5, vr6, fr6, vr7, fr7, rfl, hfqr, hr00, hr01, hr1, hr2, hr3, hr4, hr5, hr6, hr7⟩ := rdEntry_inv r00 r01 r1 r2 r3 r4 r5 r6 r7 hr1r; have FQr := Lib.hid hfqr; clear hfqr; obtain ⟨ar5, kr5, rfl, or51, or52, or53⟩ := hr5.open; obtain ⟨ar6, kr6, rfl, or61, or62, or63⟩ := hr6.open; obtain ⟨ar7, kr7, rfl, or71, or72, or73⟩ := hr7.open; clear hr hr1r hyr; obtain ⟨bb, hbb⟩ : ∃ b : Bool, b = (lookE p0 (x0, x1)).isSome := ⟨_, rfl⟩; rw [← hbb]; have Hbb := Lib.hid hbb; clear hbb
  have HGB := Lib.hid gB
  have HB1 := Lib.hid g1'
  have y0 := bB0 _ g1'
  have y1 := bB1 _ g1'
  have y2 := bB2 _ g1'
  have y3 := bB3 _ g1'
  have y4 := bB4 _ g1'
  have y5 := bB5 _ g1'
  have y6 := bB6 _ g1'
  have y7 := bB7 _ g1'
  have y8 := bB8 _ g1'
  have zy0 := blk y0
  have zy2 := blk y2
  have zy3 := blk y3
  have zy5 := blk y5
  have zy7 := blk y7
  clear g1'
  cases bb with
  | false =>
    have HJ := Lib.hid (justB_none (g := (g0, g1)) (t := t0) (old := (p0, p1)) (now := (m0, m1)) (x := (x0, x1)) (none_of_isSome Hbb.out.symm))
    go_wp2_with fail
    refine wp_region_grown (by kernel_rfl) (by kernel_rfl) ?_
    repeat (go_big_quiet_step (fail))
    refine wpQuiet_nil ?_
    intro _ hw'
    obtain ⟨x3, hw''⟩ := hw'
    subst hw''
    go_wp2_with fail
    go_ret
    exact ⟨ret_bool HJ.out.symm, HGB.out.trans (HB1.out.trans (by repeat (first | exact Gr.refl _ | apply Gr.ext | apply Gr.alloc | apply Gr.drew)))⟩
  | true =>
    have hlk : lookE p0 (x0, x1) = some ((r00, r01), r1, r2, r3, r4, r5, r6, r7) := some_of_getD Hbb.out.symm HYr.out.symm
    have HLK := Lib.hid hlk
    obtain ⟨sm, hsm⟩ : ∃ b, b = sameSrc ((r00, r01), r1, r2, r3, r4, r5, r6, r7) (srcOf (g0, g1) t0 (x0, x1)) := ⟨_, rfl⟩
    have HSM := Lib.hid hsm
    have HR7 := Lib.hid hr7
    clear hlk hsm hr7
    go_wp2_with fail
    generalize hC : W1.alloc (.cells #[.int .i64 r00, .string r01, .int .i64 r1, .int .i64 r2, .int .i64 r3, .string r4, .slice ar5 r5.length kr5, .slice ar6 r6.length kr6, .slice ar7 r7.length kr7] 38) = C
    have g1C : Gr W1 C := by rw [← hC]; exact (by repeat (first | exact Gr.refl _ | apply Gr.ext | apply Gr.alloc | apply Gr.drew))
    have HGC := Lib.hid (HGB.out.trans (HB1.out.trans g1C))
    have HBC := Lib.hid (HB1.out.trans g1C)
    have H1C := Lib.hid g1C
    have n0 : C.cell? ⟨W1.heap.size, 0, none⟩ = some (.int .i64 r00) := by rw [← hC]; repeat (first | ((with_reducible refine box_cell ?_ ?_) <;> first | omega | (simp; done) | (simp; omega) | rfl) | (with_reducible refine Gr.keep (Gr.alloc (Gr.refl _) _) ?_) | (with_reducible refine Gr.keep (Gr.ext (Gr.refl _) _) ?_) | (with_reducible refine Gr.keep (Gr.drew (Gr.refl _)) ?_))
    have n1 : C.cell? ⟨W1.heap.size, 1, none⟩ = some (.string r01) := by rw [← hC]; repeat (first | ((with_reducible refine box_cell ?_ ?_) <;> first | omega | (simp; done) | (simp; omega) | rfl) | (with_reducible refine Gr.keep (Gr.alloc (Gr.refl _) _) ?_) | (with_reducible refine Gr.keep (Gr.ext (Gr.refl _) _) ?_) | (with_reducible refine Gr.keep (Gr.drew (Gr.refl _)) ?_))
    have n2 : C.cell? ⟨W1.heap.size, 2, none⟩ = some (.int .i64 r1) := by rw [← hC]; repeat (first | ((with_reducible refine box_cell ?_ ?_) <;> first | omega | (simp; done) | (simp; omega) | rfl) | (with_reducible refine Gr.keep (Gr.alloc (Gr.refl _) _) ?_) | (with_reducible refine Gr.keep (Gr.ext (Gr.refl _) _) ?_) | (with_reducible refine Gr.keep (Gr.drew (Gr.refl _)) ?_))
    have n3 : C.cell? ⟨W1.heap.size, 3, none⟩ = some (.int .i64 r2) := by rw [← hC]; repeat (first | ((with_reducible refine box_cell ?_ ?_) <;> first | omega | (simp; done) | (simp; omega) | rfl) | (with_reducible refine Gr.keep (Gr.alloc (Gr.refl _) _) ?_) | (with_reducible refine Gr.keep (Gr.ext (Gr.refl _) _) ?_) | (with_reducible refine Gr.keep (Gr.drew (Gr.refl _)) ?_))
    have n4 : C.cell? ⟨W1.heap.size, 4, none⟩ = some (.int .i64 r3) := by rw [← hC]; repeat (first | ((with_reducible refine box_cell ?_ ?_) <;> first | omega | (simp; done) | (simp; omega) | rfl) | (with_reducible refine Gr.keep (Gr.alloc (Gr.refl _) _) ?_) | (with_reducible refine Gr.keep (Gr.ext (Gr.refl _) _) ?_) | (with_reducible refine Gr.keep (Gr.drew (Gr.refl _)) ?_))
    have n5 : C.cell? ⟨W1.heap.size, 5, none⟩ = some (.string r4) := by rw [← hC]; repeat (first | ((with_reducible refine box_cell ?_ ?_) <;> first | omega | (simp; done) | (simp; omega) | rfl) | (with_reducible refine Gr.keep (Gr.alloc (Gr.refl _) _) ?_) | (with_reducible refine Gr.keep (Gr.ext (Gr.refl _) _) ?_) | (with_reducible refine Gr.keep (Gr.drew (Gr.refl _)) ?_))
    have n6 : C.cell? ⟨W1.heap.size, 6, none⟩ = some (.slice ar5 r5.length kr5) := by rw [← hC]; repeat (first | ((with_reducible refine box_cell ?_ ?_) <;> first | omega | (simp; done) | (simp; omega) | rfl) | (with_reducible refine Gr.keep (Gr.alloc (Gr.refl _) _) ?_) | (with_reducible refine Gr.keep (Gr.ext (Gr.refl _) _) ?_) | (with_reducible refine Gr.keep (Gr.drew (Gr.refl _)) ?_))
    have n7 : C.cell? ⟨W1.heap.size, 7, none⟩ = some (.slice ar6 r6.length kr6) := by rw [← hC]; repeat (first | ((with_reducible refine box_cell ?_ ?_) <;> first | omega | (simp; done) | (simp; omega) | rfl) | (with_reducible refine Gr.keep (Gr.alloc (Gr.refl _) _) ?_) | (with_reducible refine Gr.keep (Gr.ext (Gr.refl _) _) ?_) | (with_reducible refine Gr.keep (Gr.drew (Gr.refl _)) ?_))
    have n8 : C.cell? ⟨W1.heap.size, 8, none⟩ = some (.slice ar7 r7.length kr7) := by rw [← hC]; repeat (first | ((with_reducible refine box_cell ?_ ?_) <;> first | omega | (simp; done) | (simp; omega) | rfl) | (with_reducible refine Gr.keep (Gr.alloc (Gr.refl _) _) ?_) | (with_reducible refine Gr.keep (Gr.ext (Gr.refl _) _) ?_) | (with_reducible refine Gr.keep (Gr.drew (Gr.refl _)) ?_))
    clear hC y0 y1 y2 y3 y4 y5 y6 y7 y8 zy0 zy2 zy3 zy5 zy7 g1C
    have HN8 := Lib.hid n8
    have zn := blk n0
    have k0 := fun (w' : World) (h : Gr C w') => bB0 _ (HBC.out.trans h)
    have k1 := fun (w' : World) (h : Gr C w') => bB1 _ (HBC.out.trans h)
    have k2 := fun (w' : World) (h : Gr C w') => bB2 _ (HBC.out.trans h)
    have k7 := fun (w' : World) (h : Gr C w') => bB7 _ (HBC.out.trans h)
    have k8 := fun (w' : World) (h : Gr C w') => bB8 _ (HBC.out.trans h)
    have l0 := fun (w' : World) (h : Gr C w') => h.keep n0
    have l1 := fun (w' : World) (h : Gr C w') => h.keep n1
    have l2 := fun (w' : World) (h : Gr C w') => h.keep n2
    have l3 := fun (w' : World) (h : Gr C w') => h.keep n3
    have l4 := fun (w' : World) (h : Gr C w') => h.keep n4
    have l5 := fun (w' : World) (h : Gr C w') => h.keep n5
    have l6 := fun (w' : World) (h : Gr C w') => h.keep n6
    have l7 := fun (w' : World) (h : Gr C w') => h.keep n7
    have l8 := fun (w' : World) (h : Gr C w') => h.keep n8
    go_region_held3 (fun w' => Gr C w') (first | assumption | exact Gr.drew (Gr.refl _) | (repeat (first | assumption | exact Gr.refl _ | apply Gr.ext | apply Gr.alloc | apply Gr.drew)))
      (first | (go_at_call 9; refine (specSrc_any (g0, g1) t0 (x0, x1) _ (Rd.gr HG.out (HGC.out.trans (by first | assumption | exact (by repeat (first | exact Gr.refl _ | apply Gr.ext | apply Gr.alloc | apply Gr.drew))))) (Rd.gr HT.out (HGC.out.trans (by first | assumption | exact (by repeat (first | exact Gr.refl _ | apply Gr.ext | apply Gr.alloc | apply Gr.drew))))) (Rd.gr HX.out (HGC.out.trans (by first | assumption | exact (by repeat (first | exact Gr.refl _ | apply Gr.ext | apply Gr.alloc | apply Gr.drew))))) HWT.out HWT2.out).mono ?_; rintro e w' ⟨ds, fs, rfl, hs, -, x5, rfl⟩; have HS := Lib.hid hs; obtain ⟨s00, s01, s1, s2, s3, s4, as5, ls5, cs5, as6, ls6, cs6, as7, ls7, cs7, rfl⟩ := rdEntry_shape hs; clear hs) | (go_at_call 63; refine (specSame_any _ _ _ _ ((r00, r01), r1, r2, r3, r4, r5, r6, r7) (srcOf (g0, g1) t0 (x0, x1)) _ (Rd.gr HRr.out (H1C.out.trans (by first | assumption | exact (by repeat (first | exact Gr.refl _ | apply Gr.ext | apply Gr.alloc | apply Gr.drew))))) (Rd.gr HS.out (by first | assumption | exact (by repeat (first | exact Gr.refl _ | apply Gr.ext | apply Gr.alloc | apply Gr.drew))))).mono ?_; rintro e w' ⟨rfl, x6, rfl⟩; rw [← HSM.out]))
    have hG9 : Gr C ((C.drew.ext x5).ext x6) := (by repeat (first | exact Gr.refl _ | apply Gr.ext | apply Gr.alloc | apply Gr.drew))
    generalize (C.drew.ext x5).ext x6 = W9 at hG9 ⊢
    have m8 := l8 _ hG9
    have zm8 := blk m8
    have HG9 := Lib.hid hG9
    clear k0 k1 k2 k7 k8 l0 l1 l2 l3 l4 l5 l6 l7 l8 n0 n1 n2 n3 n4 n5 n6 n7 n8 zn hG9
    cases sm with
    | false =>
      have HJ := Lib.hid (justB_src (old := (p0, p1)) (now := (m0, m1)) HLK.out HSM.out.symm)
      go_wp2_with fail
      go_ret
      exact ⟨ret_bool HJ.out.symm, HGC.out.trans (HG9.out.trans (by repeat (first | exact Gr.refl _ | apply Gr.ext | apply Gr.alloc | apply Gr.drew)))⟩
    | true =>
      have HJ := Lib.hid (justB_reads (old := (p0, p1)) (now := (m0, m1)) HLK.out HSM.out.symm)
      clear m8 zm8
      have HR79 := Lib.hid (HR7.out.gr (H1C.out.trans HG9.out))
      have n9 : ∀ w' : World, Gr W9 w' → w'.cell? ⟨W1.heap.size, 8, none⟩ = some (.slice ar7 r7.length kr7) := fun w' h => (HG9.out.trans h).keep HN8.out
      have HB9 := Lib.hid (HBC.out.trans HG9.out)
      go_wp2_with fail
      go_loopw [13] (fun s13 wr => ∃ k : Nat, k ≤ r7.length ∧ Hid (∀ j (h : j < r7.length), j < k → readOld (g0, g1) t0 (m0, m1) r7[j] = false) ∧ Gr W9 wr ∧ s13 = .int .i64 k) (fun s13 _ => r7.length - (intOf s13).toNat)
      case atStart => exact ⟨0, by omega, Lib.hid (by omega), (by repeat (first | exact Gr.refl _ | apply Gr.ext | apply Gr.alloc | apply Gr.drew)), rfl⟩
      case round =>
        obtain ⟨k, hk, HK, hg, rfl⟩ := hrel
        rename World => W3
        have HG9W := Lib.hid hg
        have HBW := Lib.hid (HB9.out.trans hg)
        have HGW := Lib.hid (HGB.out.trans HBW.out)
        have e8 := n9 _ hg
        have ze8 := blk e8
        clear hg
        by_cases hlt : k < r7.length
        · have hr7 := HR79.out.gr HG9W.out
          obtain ⟨bq, offq, rfl, hbbq⟩ := or73 k hlt
          obtain ⟨csq, feq, hcq, hrq, -⟩ := hr7.at hlt
          obtain ⟨yq, hyq⟩ : ∃ y, y = r7[k] := ⟨_, rfl⟩
          rw [← hyq] at hrq
          have HYq := Lib.hid hyq
          have HRq := Lib.hid hrq
          obtain ⟨⟨q00, q01⟩, q1, q2⟩ := yq
          obtain ⟨hcsq, -, hq00, hq01, hq1, hq2⟩ := rdReading_inv (cs := csq.toArray) q00 q01 q1 q2 (by simpa using hrq)
          obtain rfl : csq = [.int .i64 q00, .string q01, .int .i64 q1, .string q2] := by have := congrArg Array.toList hcsq; simpa using this
          have qz0 : W3.cell? ⟨bq, offq + k * 4, none⟩ = some (.int .i64 q00) := by simpa [Rd.n] using hcq 0 _ rfl
          have qz1 : W3.cell? ⟨bq, offq + k * 4 + 1, none⟩ = some (.string q01) := hcq 1 _ rfl
          have qz2 : W3.cell? ⟨bq, offq + k * 4 + 2, none⟩ = some (.int .i64 q1) := hcq 2 _ rfl
          have qz3 : W3.cell? ⟨bq, offq + k * 4 + 3, none⟩ = some (.string q2) := hcq 3 _ rfl
          have qzb := blk qz0
          clear hcsq hcq hrq hyq
          have HQI := Lib.hid (rdInstance_mk (w := W3) q00 q01 hq00 hq01)
          have j0 : (0 : Int) ≤ (k : Int) := by omega
          have j1 : (k : Int) < (r7.length : Int) := by omega
          have y0 := bB0 _ HBW.out
          have y1 := bB1 _ HBW.out
          have y2 := bB2 _ HBW.out
          have y3 := bB3 _ HBW.out
          have y4 := bB4 _ HBW.out
          have y5 := bB5 _ HBW.out
          have y6 := bB6 _ HBW.out
          have y7 := bB7 _ HBW.out
          have y8 := bB8 _ HBW.out
          have zy0 := blk y0
          have zy2 := blk y2
          have zy3 := blk y3
          have zy5 := blk y5
          have zy7 := blk y7
          clear hr7 hq00 hq01 hq1 hq2
          by_cases hn : q01 = ByteArray.empty
          · subst hn
            have HC1 := Lib.hid (fun x : Ext => specNodeIx_any t0 q00 (W3.ext x) (Rd.gr HT.out (HGW.out.trans (by repeat (first | exact Gr.refl _ | apply Gr.ext | apply Gr.alloc | apply Gr.drew)))))
            have HC2 := Lib.hid (fun x : Ext => specSymOf_any (g0, g1) t0 (nodeIx t0 q00) (W3.ext x) (Rd.gr HG.out (HGW.out.trans (by repeat (first | exact Gr.refl _ | apply Gr.ext | apply Gr.alloc | apply Gr.drew)))) (Rd.gr HT.out (HGW.out.trans (by repeat (first | exact Gr.refl _ | apply Gr.ext | apply Gr.alloc | apply Gr.drew)))) HWT.out)
            by_cases hs : symAt (g0, g1) t0 (nodeIx t0 q00) = q2
            · have HRO := Lib.hid (show readOld (g0, g1) t0 (m0, m1) ((q00, ByteArray.empty), q1, q2) = false by rw [readOld_node, decide_eq_false]; exact fun h => h hs)
              have hb : ((symAt (g0, g1) t0 (nodeIx t0 q00)).toList == q2.toList) = true := by rw [hs]; simp
              have HS := Lib.hid hs
              clear hs
              go_wp2_with fail
              refine wp_region_grown (by kernel_rfl) (by kernel_rfl) ?_
              repeat (go_big_quiet_step (first | (go_at_call 65; exact grown_call (HC1.out _)) | (go_at_call 64; exact grown_call (HC2.out _))))
              refine wpQuiet_nil ?_
              intro _ hw'
              obtain ⟨nx, hw''⟩ := hw'
              subst hw''
              go_wp2_with fail
              refine ⟨⟨k + 1, by omega, Lib.hid fun j hj hjk => ?_, HG9W.out.trans ((by repeat (first | exact Gr.refl _ | apply Gr.ext | apply Gr.alloc | apply Gr.drew))), by go_num⟩, by simp [intOf]; omega⟩
              by_cases hjk2 : j < k
              · exact HK.out j hj hjk2
              · obtain rfl : j = k := by omega
                rw [← HYq.out]
                exact HRO.out
            · have HRO := Lib.hid (show readOld (g0, g1) t0 (m0, m1) ((q00, ByteArray.empty), q1, q2) = true by rw [readOld_node]; exact decide_eq_true hs)
              have hb : ((symAt (g0, g1) t0 (nodeIx t0 q00)).toList == q2.toList) = false := by simpa using fun e => hs (str_inj e)
              clear hs
              go_wp2_with fail
              refine wp_region_grown (by kernel_rfl) (by kernel_rfl) ?_
              repeat (go_big_quiet_step (first | (go_at_call 65; exact grown_call (HC1.out _)) | (go_at_call 64; exact grown_call (HC2.out _))))
              refine wpQuiet_nil ?_
              intro _ hw'
              obtain ⟨nx, hw''⟩ := hw'
              subst hw''
              go_wp2_with fail
              go_ret
              refine ⟨ret_bool ?_, HGW.out.trans ((by repeat (first | exact Gr.refl _ | apply Gr.ext | apply Gr.alloc | apply Gr.drew)))⟩
              rw [HJ.out]
              symm
              rw [List.any_eq_true]
              exact ⟨_, List.getElem_mem hlt, by rw [← HYq.out]; exact HRO.out⟩
          · have e0 : q01.toList.isEmpty = false := by
              cases h : q01.toList with
              | nil => exact absurd (str_inj (h.trans (show ([] : List UInt8) = ByteArray.empty.toList by simp [ByteArray.toList_eq]))) hn
              | cons a l => rfl
            have HN := Lib.hid hn
            clear hn
            have k5 := fun (w' : World) (h : Gr W3 w') => h.keep y5
            have k6 := fun (w' : World) (h : Gr W3 w') => h.keep y6
            have k8 := fun (w' : World) (h : Gr W3 w') => h.keep e8
            have kq0 := fun (w' : World) (h : Gr W3 w') => h.keep qz0
            have kq1 := fun (w' : World) (h : Gr W3 w') => h.keep qz1
            go_wp2_with fail
            go_cut [14, 15] (fun s14 s15 wr => EntBox W3 (lookE m0 (q00, q01)) s14 s15 wr)
            case first =>
              go_region_held3 (fun w' => Gr W3 w') (first | assumption | exact Gr.drew (Gr.refl _) | (repeat (first | assumption | exact Gr.refl _ | apply Gr.ext | apply Gr.alloc | apply Gr.drew)))
                (first | (go_at_call 62; refine (specFind_any _ _ _ _ (m0, m1) (q00, q01) _ (Rd.gr HM.out (HGW.out.trans (by first | assumption | exact (by repeat (first | exact Gr.refl _ | apply Gr.ext | apply Gr.alloc | apply Gr.drew))))) (Rd.gr HQI.out (by first | assumption | exact (by repeat (first | exact Gr.refl _ | apply Gr.ext | apply Gr.alloc | apply Gr.drew)))) HWM.out).mono ?_; rintro e w' ⟨es, fq, rfl, hr, -, x2, rfl⟩; obtain ⟨yv, hyv⟩ : ∃ y, y = (lookE m0 (q00, q01)).getD zeroE := ⟨_, rfl⟩; have hr1v := hr; change Rd.rd fq _ es.toList ((lookE m0 (q00, q01)).getD zeroE) at hr1v; rw [← hyv] at hr1v; have HYv := Lib.hid hyv; have HRv := Lib.hid hr1v; obtain ⟨⟨v00, v01⟩, v1, v2, v3, v4, v5, v6, v7⟩ := yv; obtain ⟨vv5, fv5, vv6, fv6, vv7, fv7, rfl, hfqv, hv00, hv01, hv1, hv2, hv3, hv4, hv5, hv6, hv7⟩ := rdEntry_inv v00 v01 v1 v2 v3 v4 v5 v6 v7 hr1v; have FQv := Lib.hid hfqv; clear hfqv; obtain ⟨av5, kv5, rfl, ov51, ov52, ov53⟩ := hv5.open; obtain ⟨av6, kv6, rfl, ov61, ov62, ov63⟩ := hv6.open; obtain ⟨av7, kv7, rfl, ov71, ov72, ov73⟩ := hv7.open; clear hr hr1v hyv; obtain ⟨b4, hb4⟩ : ∃ b : Bool, b = (lookE m0 (q00, q01)).isSome := ⟨_, rfl⟩; rw [← hb4]; have Hb4 := Lib.hid hb4; clear hb4))
              all_goals
                go_wp2_with fail
                go_meet
                refine ⟨_, rfl, by rw [← Hb4.out], (by repeat (first | exact Gr.refl _ | apply Gr.ext | apply Gr.alloc | apply Gr.drew)), ?_⟩
                rw [← HYv.out]
                repeat (first | ((with_reducible refine box_cell ?_ ?_) <;> first | omega | (simp; done) | (simp; omega) | rfl) | (with_reducible refine Gr.keep (Gr.alloc (Gr.refl _) _) ?_) | (with_reducible refine Gr.keep (Gr.ext (Gr.refl _) _) ?_) | (with_reducible refine Gr.keep (Gr.drew (Gr.refl _)) ?_))
            case rest =>
              obtain ⟨b14, rfl, rfl, g4, ce⟩ := hcut
              rename World => W4
              have zce := blk ce
              have f8 := g4.keep e8
              have fq1 := g4.keep qz2
              have zf8 := blk f8
              have zfq := blk fq1
              have HG4 := Lib.hid g4
              clear k5 k6 k8 kq0 kq1 y0 y1 y2 y3 y4 y5 y6 y7 y8 zy0 zy2 zy3 zy5 zy7 g4
              cases ho : lookE m0 (q00, q01) with
              | none =>
                rw [ho] at ce
                have HRO := Lib.hid (readOld_none (g := (g0, g1)) (t := t0) (now := (m0, m1)) (r := ((q00, q01), q1, q2)) HN.out ho)
                go_wp2_with fail
                refine wp_region_grown (by kernel_rfl) (by kernel_rfl) ?_
                repeat (go_big_quiet_step (fail))
                refine wpQuiet_nil ?_
                intro _ hw'
                obtain ⟨nx, hw''⟩ := hw'
                subst hw''
                go_wp2_with fail
                go_ret
                refine ⟨ret_bool ?_, HGW.out.trans (HG4.out.trans (by repeat (first | exact Gr.refl _ | apply Gr.ext | apply Gr.alloc | apply Gr.drew)))⟩
                rw [HJ.out]
                symm
                rw [List.any_eq_true]
                exact ⟨_, List.getElem_mem hlt, by rw [← HYq.out]; exact HRO.out⟩
              | some E =>
                rw [ho] at ce
                obtain ⟨vE, hvE⟩ : ∃ v, v = E.2.1 := ⟨_, rfl⟩
                have ce' : W4.cell? ⟨b14, 2, none⟩ = some (.int .i64 vE) := by rw [hvE]; exact ce
                have hro := readOld_some (g := (g0, g1)) (t := t0) (now := (m0, m1)) (r := ((q00, q01), q1, q2)) HN.out ho
                simp only [← hvE] at hro
                clear ce hvE
                by_cases hv : vE = q1
                · have hb : (vE != q1) = false := by simp [hv]
                  have HRO := Lib.hid (show readOld (g0, g1) t0 (m0, m1) ((q00, q01), q1, q2) = false by rw [hro]; exact decide_eq_false (fun h => h hv))
                  clear hro hv
                  go_wp2_with fail
                  refine wp_region_grown (by kernel_rfl) (by kernel_rfl) ?_
                  repeat (go_big_quiet_step (fail))
                  refine wpQuiet_nil ?_
                  intro _ hw'
                  obtain ⟨nx, hw''⟩ := hw'
                  subst hw''
                  go_wp2_with fail
                  refine ⟨⟨k + 1, by omega, Lib.hid fun j hj hjk => ?_, HG9W.out.trans (HG4.out.trans (by repeat (first | exact Gr.refl _ | apply Gr.ext | apply Gr.alloc | apply Gr.drew))), by go_num⟩, by simp [intOf]; omega⟩
                  by_cases hjk2 : j < k
                  · exact HK.out j hj hjk2
                  · obtain rfl : j = k := by omega
                    rw [← HYq.out]
                    exact HRO.out
                · have hb : (vE != q1) = true := by simp [hv]
                  have HRO := Lib.hid (show readOld (g0, g1) t0 (m0, m1) ((q00, q01), q1, q2) = true by rw [hro]; exact decide_eq_true hv)
                  clear hro hv
                  go_wp2_with fail
                  refine wp_region_grown (by kernel_rfl) (by kernel_rfl) ?_
                  repeat (go_big_quiet_step (fail))
                  refine wpQuiet_nil ?_
                  intro _ hw'
                  obtain ⟨nx, hw''⟩ := hw'
                  subst hw''
                  go_wp2_with fail
                  go_ret
                  refine ⟨ret_bool ?_, HGW.out.trans (HG4.out.trans (by repeat (first | exact Gr.refl _ | apply Gr.ext | apply Gr.alloc | apply Gr.drew)))⟩
                  rw [HJ.out]
                  symm
                  rw [List.any_eq_true]
                  exact ⟨_, List.getElem_mem hlt, by rw [← HYq.out]; exact HRO.out⟩
        · have hno : r7.any (readOld (g0, g1) t0 (m0, m1)) = false := by
            rw [List.any_eq_false]
            intro z hz
            obtain ⟨j, hj, rfl⟩ := List.mem_iff_getElem.1 hz
            rw [HK.out j hj (by omega)]
            decide
          have HNO := Lib.hid hno
          clear hno
          go_wp2_with fail
          go_ret
          exact ⟨ret_bool (by rw [HJ.out]; exact HNO.out.symm), HGW.out.trans (by repeat (first | exact Gr.refl _ | apply Gr.ext | apply Gr.alloc | apply Gr.drew))⟩
end Go.Proofs.YtbfmeiooeaaibaaGreat

namespace Go.Proofs.YtbfmeiooeaaibaaGreat
open Go.RowKit
variable {d : Nat}
set_option linter.unusedVariables false
set_option linter.unusedSimpArgs false

set_option maxRecDepth 100000 in
set_option maxHeartbeats 8000000 in
theorem specUnj_any {fg : List Nat} {cg : Array Value} (g : (GGrammar d)) {ft : List Nat} {ct : Array Value} (t : GTree) {fp : List Nat} {cp : Array Value} (p : GMemo) {fm : List Nat} {cm : Array Value} (m : GMemo) (w : World) (hg : Rd.rd fg w cg.toList g) (ht : Rd.rd ft w ct.toList t) (hp : Rd.rd fp w cp.toList p) (hm : Rd.rd fm w cm.toList m) (hl : wtGrammar g ≤ 1048576) (hl2 : wtTree t ≤ 1048576) (hl3 : wtMemo p ≤ 1048576) (hl4 : wtMemo m ≤ 1048576) :
    Calls Tryz.prog 26 #[.agg cg, .agg ct, .agg cp, .agg cm] w (MadeS w (unjOf g t p m)) := by
  obtain ⟨i0, hi, hz0, hz1, hz2⟩ := info_parts Tryz.infoInstC
  have HZ := Lib.hid (And.intro hi (And.intro hz0 (And.intro hz1 hz2)))
  clear hi hz0 hz1 hz2
  have HWT := Lib.hid hl
  have HWT2 := Lib.hid hl2
  have HWP := Lib.hid hl3
  have HWM := Lib.hid hl4
  have hml : m.2.length ≤ 1048576 := by
    have h1 : wtEntryS m.1 + wtInstanceS m.2 ≤ 1048576 := hl4
    have h2 := wtL_len wtInstance m.2
    have h3 : wtInstanceS m.2 = wtL wtInstance m.2 := rfl
    omega
  clear hl hl2 hl3 hl4
  have HG := Lib.hid hg
  obtain ⟨g0, g1⟩ := g
  obtain ⟨vg0, fg0, vg1, fg1, rfl, hfpg, hg0, hg1⟩ := rdGrammar_inv g0 g1 hg
  have FPg := Lib.hid hfpg
  clear hfpg
  obtain ⟨ag0, kg0, rfl, og01, og02, og03⟩ := hg0.open
  obtain ⟨ag1, kg1, rfl, og11, og12, og13⟩ := hg1.open
  clear hg
  have HT := Lib.hid ht
  obtain ⟨t0, rfl⟩ : ∃ y, y = t := ⟨t, rfl⟩
  obtain ⟨vt0, ft0, rfl, hfpt, ht0⟩ := rdTree_inv t0 ht
  have FPt := Lib.hid hfpt
  clear hfpt
  obtain ⟨at0, kt0, rfl, ot01, ot02, ot03⟩ := ht0.open
  clear ht
  have HP := Lib.hid hp
  obtain ⟨p0, p1⟩ := p
  obtain ⟨vp0, fp0, vp1, fp1, rfl, hfpp, hp0, hp1⟩ := rdMemo_inv p0 p1 hp
  have FPp := Lib.hid hfpp
  clear hfpp
  obtain ⟨ap0, kp0, rfl, op01, op02, op03⟩ := hp0.open
  obtain ⟨ap1, kp1, rfl, op11, op12, op13⟩ := hp1.open
  clear hp
  have HM := Lib.hid hm
  obtain ⟨m0, m1⟩ := m
  obtain ⟨vm0, fm0, vm1, fm1, rfl, hfpm, hm0, hm1⟩ := rdMemo_inv m0 m1 hm
  have FPm := Lib.hid hfpm
  clear hfpm
  obtain ⟨am0, km0, rfl, om01, om02, om03⟩ := hm0.open
  obtain ⟨am1, km1, rfl, om11, om12, om13⟩ := hm1.open
  clear hm
  have hml' : m1.length ≤ 1048576 := hml
  obtain ⟨J, hJ⟩ : ∃ J : GInstance → Bool, J = justB (g0, g1) t0 (p0, p1) (m0, m1) := ⟨_, rfl⟩
  have HJ := Lib.hid hJ
  clear hml hJ
  go_enter Tryz.func26, Tryz.ntmps26
  go_wp2_with fail
  generalize hB : ((((w.alloc (.cells #[.slice ag0 g0.length kg0, .slice ag1 g1.length kg1] 43)).alloc (.cells #[.slice at0 t0.length kt0] 47)).alloc (.cells #[.slice ap0 p0.length kp0, .slice ap1 p1.length kp1] 66)).alloc (.cells #[.slice am0 m0.length km0, .slice am1 m1.length km1] 66)) = B
  have gB : Gr w B := by rw [← hB]; exact (by repeat (first | exact Gr.refl _ | apply Gr.ext | apply Gr.alloc | apply Gr.drew))
  have bB0 : ∀ w' : World, Gr B w' → w'.cell? ⟨w.heap.size, 0, none⟩ = some (.slice ag0 g0.length kg0) := fun w' hg => hg.keep (by rw [← hB]; repeat (first | ((with_reducible refine box_cell ?_ ?_) <;> first | omega | (simp; done) | (simp; omega) | rfl) | (with_reducible refine Gr.keep (Gr.alloc (Gr.refl _) _) ?_) | (with_reducible refine Gr.keep (Gr.ext (Gr.refl _) _) ?_) | (with_reducible refine Gr.keep (Gr.drew (Gr.refl _)) ?_)))
  have bB1 : ∀ w' : World, Gr B w' → w'.cell? ⟨w.heap.size, 1, none⟩ = some (.slice ag1 g1.length kg1) := fun w' hg => hg.keep (by rw [← hB]; repeat (first | ((with_reducible refine box_cell ?_ ?_) <;> first | omega | (simp; done) | (simp; omega) | rfl) | (with_reducible refine Gr.keep (Gr.alloc (Gr.refl _) _) ?_) | (with_reducible refine Gr.keep (Gr.ext (Gr.refl _) _) ?_) | (with_reducible refine Gr.keep (Gr.drew (Gr.refl _)) ?_)))
  have bB2 : ∀ w' : World, Gr B w' → w'.cell? ⟨w.heap.size + 1, 0, none⟩ = some (.slice at0 t0.length kt0) := fun w' hg => hg.keep (by rw [← hB]; repeat (first | ((with_reducible refine box_cell ?_ ?_) <;> first | omega | (simp; done) | (simp; omega) | rfl) | (with_reducible refine Gr.keep (Gr.alloc (Gr.refl _) _) ?_) | (with_reducible refine Gr.keep (Gr.ext (Gr.refl _) _) ?_) | (with_reducible refine Gr.keep (Gr.drew (Gr.refl _)) ?_)))
  have bB3 : ∀ w' : World, Gr B w' → w'.cell? ⟨w.heap.size + 1 + 1, 0, none⟩ = some (.slice ap0 p0.length kp0) := fun w' hg => hg.keep (by rw [← hB]; repeat (first | ((with_reducible refine box_cell ?_ ?_) <;> first | omega | (simp; done) | (simp; omega) | rfl) | (with_reducible refine Gr.keep (Gr.alloc (Gr.refl _) _) ?_) | (with_reducible refine Gr.keep (Gr.ext (Gr.refl _) _) ?_) | (with_reducible refine Gr.keep (Gr.drew (Gr.refl _)) ?_)))
  have bB4 : ∀ w' : World, Gr B w' → w'.cell? ⟨w.heap.size + 1 + 1, 1, none⟩ = some (.slice ap1 p1.length kp1) := fun w' hg => hg.keep (by rw [← hB]; repeat (first | ((with_reducible refine box_cell ?_ ?_) <;> first | omega | (simp; done) | (simp; omega) | rfl) | (with_reducible refine Gr.keep (Gr.alloc (Gr.refl _) _) ?_) | (with_reducible refine Gr.keep (Gr.ext (Gr.refl _) _) ?_) | (with_reducible refine Gr.keep (Gr.drew (Gr.refl _)) ?_)))
  have bB5 : ∀ w' : World, Gr B w' → w'.cell? ⟨w.heap.size + 1 + 1 + 1, 0, none⟩ = some (.slice am0 m0.length km0) := fun w' hg => hg.keep (by rw [← hB]; repeat (first | ((with_reducible refine box_cell ?_ ?_) <;> first | omega | (simp; done) | (simp; omega) | rfl) | (with_reducible refine Gr.keep (Gr.alloc (Gr.refl _) _) ?_) | (with_reducible refine Gr.keep (Gr.ext (Gr.refl _) _) ?_) | (with_reducible refine Gr.keep (Gr.drew (Gr.refl _)) ?_)))
  have bB6 : ∀ w' : World, Gr B w' → w'.cell? ⟨w.heap.size + 1 + 1 + 1, 1, none⟩ = some (.slice am1 m1.length km1) := fun w' hg => hg.keep (by rw [← hB]; repeat (first | ((with_reducible refine box_cell ?_ ?_) <;> first | omega | (simp; done) | (simp; omega) | rfl) | (with_reducible refine Gr.keep (Gr.alloc (Gr.refl _) _) ?_) | (with_reducible refine Gr.keep (Gr.ext (Gr.refl _) _) ?_) | (with_reducible refine Gr.keep (Gr.drew (Gr.refl _)) ?_)))
  have bB7 : ∀ w' : World, Gr B w' → w'.cell? ⟨w.heap.size + 2, 0, none⟩ = some (.slice ap0 p0.length kp0) := fun w' hg => hg.keep (by rw [← hB]; repeat (first | ((with_reducible refine box_cell ?_ ?_) <;> first | omega | (simp; done) | (simp; omega) | rfl) | (with_reducible refine Gr.keep (Gr.alloc (Gr.refl _) _) ?_) | (with_reducible refine Gr.keep (Gr.ext (Gr.refl _) _) ?_) | (with_reducible refine Gr.keep (Gr.drew (Gr.refl _)) ?_)))
  have bB8 : ∀ w' : World, Gr B w' → w'.cell? ⟨w.heap.size + 2, 1, none⟩ = some (.slice ap1 p1.length kp1) := fun w' hg => hg.keep (by rw [← hB]; repeat (first | ((with_reducible refine box_cell ?_ ?_) <;> first | omega | (simp; done) | (simp; omega) | rfl) | (with_reducible refine Gr.keep (Gr.alloc (Gr.refl _) _) ?_) | (with_reducible refine Gr.keep (Gr.ext (Gr.refl _) _) ?_) | (with_reducible refine Gr.keep (Gr.drew (Gr.refl _)) ?_)))
  have bB9 : ∀ w' : World, Gr B w' → w'.cell? ⟨w.heap.size + 3, 0, none⟩ = some (.slice am0 m0.length km0) := fun w' hg => hg.keep (by rw [← hB]; repeat (first | ((with_reducible refine box_cell ?_ ?_) <;> first | omega | (simp; done) | (simp; omega) | rfl) | (with_reducible refine Gr.keep (Gr.alloc (Gr.refl _) _) ?_) | (with_reducible refine Gr.keep (Gr.ext (Gr.refl _) _) ?_) | (with_reducible refine Gr.keep (Gr.drew (Gr.refl _)) ?_)))
  have bB10 : ∀ w' : World, Gr B w' → w'.cell? ⟨w.heap.size + 3, 1, none⟩ = some (.slice am1 m1.length km1) := fun w' hg => hg.keep (by rw [← hB]; repeat (first | ((with_reducible refine box_cell ?_ ?_) <;> first | omega | (simp; done) | (simp; omega) | rfl) | (with_reducible refine Gr.keep (Gr.alloc (Gr.refl _) _) ?_) | (with_reducible refine Gr.keep (Gr.ext (Gr.refl _) _) ?_) | (with_reducible refine Gr.keep (Gr.drew (Gr.refl _)) ?_)))
  have sB : B.heap.size = w.heap.size + 4 := by rw [← hB]; first | (simp; done) | (simp; omega)
  have EB := Lib.hid hB
  clear hB
  go_loopw [10, 9] (fun s10 s9 wr => ∃ (k : Nat) (fps : List (List Nat)), k ≤ m1.length ∧ Hid (fps.flatten = []) ∧ Gr B wr ∧ OwnR (α := GInstance) B 34 wr s9 fps ((m1.take k).filter fun x => !J x) ∧ s10 = .int .i64 k) (fun s10 _ _ => m1.length - (intOf s10).toNat)
  case atStart => exact ⟨0, [], by omega, Lib.hid rfl, (by repeat (first | exact Gr.refl _ | apply Gr.ext | apply Gr.alloc | apply Gr.drew)), (OwnR.lit0 (α := GInstance) (w0 := B) (w := B) 34 (Nat.le_refl _) (by omega)).gr (by repeat (first | exact Gr.refl _ | apply Gr.ext | apply Gr.alloc | apply Gr.drew)), rfl⟩
  case round =>
    obtain ⟨k, fps, hk, HF, hg, hown, rfl⟩ := hrel
    rename World => W1
    have HGR := Lib.hid hg
    have HO := Lib.hid hown
    obtain ⟨ra, rc, hform⟩ := hown.form
    obtain ⟨L, hL⟩ : ∃ L, L = (m1.take k).filter fun x => !J x := ⟨_, rfl⟩
    have hLl : L.length ≤ 1048576 := by
      have h1 := List.length_filter_le (fun x => !J x) (m1.take k)
      rw [← hL, List.length_take] at h1
      omega
    rw [← hL] at hform
    have HL := Lib.hid hL
    have y0 := bB0 _ hg
    have y1 := bB1 _ hg
    have y2 := bB2 _ hg
    have y3 := bB3 _ hg
    have y4 := bB4 _ hg
    have y5 := bB5 _ hg
    have y6 := bB6 _ hg
    have zy0 := blk y0
    have zy2 := blk y2
    have zy3 := blk y3
    have zy5 := blk y5
    have hgw := gB.trans hg
    have HGW := Lib.hid hgw
    subst hform
    clear hg hown hL
    by_cases hlt : k < m1.length
    · skip
      obtain ⟨b, off, rfl, hbb⟩ := om13 k hlt
      obtain ⟨csq, feq, hcq, hrq, -⟩ := hm1.at hlt
      obtain ⟨yq, hyq⟩ : ∃ y, y = m1[k] := ⟨_, rfl⟩
      rw [← hyq] at hrq
      have HYq := Lib.hid hyq
      have HRq := Lib.hid hrq
      obtain ⟨q0, q1⟩ := yq
      obtain ⟨hcsq, -, hq0, hq1⟩ := rdInstance_inv (cs := csq.toArray) q0 q1 (by simpa using hrq)
      obtain rfl : csq = [.int .i64 q0, .string q1] := by have := congrArg Array.toList hcsq; simpa using this
      have qz0 := hgw.keep (show w.cell? ⟨b, off + k * 2, none⟩ = some (.int .i64 q0) from by simpa [Rd.n] using hcq 0 _ rfl)
      have qz1 := hgw.keep (show w.cell? ⟨b, off + k * 2 + 1, none⟩ = some (.string q1) from hcq 1 _ rfl)
      have qzb := blk qz0
      clear hcsq hcq hrq hyq
      have HQ := Lib.hid (And.intro hq0 hq1)
      have j0 : (0 : Int) ≤ (k : Int) := by omega
      have j1 : (k : Int) < (m1.length : Int) := by omega
      obtain ⟨c, hc⟩ : ∃ c, c = J (q0, q1) := ⟨_, rfl⟩
      have HC : Hid (∀ x : Ext, Calls Tryz.prog 22 #[.agg #[.slice ag0 g0.length kg0, .slice ag1 g1.length kg1], .agg #[.slice at0 t0.length kt0], .agg #[.slice ap0 p0.length kp0, .slice ap1 p1.length kp1], .agg #[.slice am0 m0.length km0, .slice (some ⟨b, off, none⟩) m1.length km1], .agg #[.int .i64 q0, .string q1]] (W1.ext x) fun e w' => e = .returned (.bool c) ∧ Gr (W1.ext x) w') := Lib.hid (fun x => by
        rw [hc, HJ.out]
        exact specJust_any (g0, g1) t0 (p0, p1) (m0, m1) (q0, q1) _ (Rd.gr HG.out (hgw.trans (by repeat (first | exact Gr.refl _ | apply Gr.ext | apply Gr.alloc | apply Gr.drew)))) (Rd.gr HT.out (hgw.trans (by repeat (first | exact Gr.refl _ | apply Gr.ext | apply Gr.alloc | apply Gr.drew)))) (Rd.gr HP.out (hgw.trans (by repeat (first | exact Gr.refl _ | apply Gr.ext | apply Gr.alloc | apply Gr.drew)))) (Rd.gr HM.out (hgw.trans (by repeat (first | exact Gr.refl _ | apply Gr.ext | apply Gr.alloc | apply Gr.drew)))) (rdInstance_mk q0 q1 hq0 hq1) HWT.out HWT2.out HWP.out HWM.out)
      have HTK := Lib.hid (show (m1.take (k + 1)).filter (fun x => !J x) = L ++ (if c then [] else [(q0, q1)]) by
        rw [List.take_succ_eq_append_getElem hlt, List.filter_append, ← HL.out, ← HYq.out, hc]
        cases hp : J (q0, q1) <;> simp [hp])
      clear hq0 hq1 hgw hc
      cases c with
      | true =>
        go_wp2_with fail
        refine wp_region_grown (by kernel_rfl) (by kernel_rfl) ?_
        repeat (go_big_quiet_step (first | (go_at_call 22; exact grown_call (HC.out _))))
        refine wpQuiet_nil ?_
        intro _ hw'
        obtain ⟨nx, hw''⟩ := hw'
        subst hw''
        go_wp2_with fail
        refine ⟨⟨k + 1, fps, by omega, HF, HGR.out.trans (by repeat (first | exact Gr.refl _ | apply Gr.ext | apply Gr.alloc | apply Gr.drew)), ?_, by go_num⟩, by simp [intOf]; omega⟩
        rw [HTK.out]
        simp only [if_true, List.append_nil]
        have h1 := HO.out
        rw [← HL.out] at h1
        exact h1.gr (by repeat (first | exact Gr.refl _ | apply Gr.ext | apply Gr.alloc | apply Gr.drew))
      | false =>
        go_wp2_with fail
        refine wp_region_grown (by kernel_rfl) (by kernel_rfl) ?_
        repeat (go_big_quiet_step (first | (go_at_call 22; exact grown_call (HC.out _))))
        refine wpQuiet_nil ?_
        intro _ hw'
        obtain ⟨nx, hw''⟩ := hw'
        subst hw''
        go_wp2_with (first | (at_builtin; refine wpList_append_R (α := GInstance) (w0 := B) (HGR.out.trans (by repeat (first | exact Gr.refl _ | apply Gr.ext | apply Gr.alloc | apply Gr.drew))) rfl _ _ 64 rfl 34 i0 (.agg #[.int .i64 0, .string ByteArray.empty]) 24 Tryz.underlying64 HZ.out.1 HZ.out.2.1 HZ.out.2.2.1 HZ.out.2.2.2 rfl _ fps _ (by rfl) (HO.out.gr (by repeat (first | exact Gr.refl _ | apply Gr.ext | apply Gr.alloc | apply Gr.drew))) _ [[]] [(q0, q1)] (by rfl) (SrcR.one (by simp) (rdInstance_mk q0 q1 HQ.out.1 HQ.out.2)) (fun b _ => by simp) (by rw [← HL.out]; unfold maxLen; simp; omega) (by rw [← HL.out]; simp; omega) ?_; intro v3 w3 h1 h2 h3 h4; replace h1 := Lib.hid h1; replace h4 := Lib.hid h4; clear h2 h3))
        refine ⟨⟨k + 1, fps ++ [[]], by omega, Lib.hid (by rw [List.flatten_append, HF.out]; rfl), h4.out, ?_, by go_num⟩, by simp [intOf]; omega⟩
        rw [HTK.out, HL.out]
        exact h1.out
    · have hk2 : k = m1.length := by omega
      subst hk2
      have hfr := HO.out.fresh (by rw [← HL.out]; unfold reachLen; omega) (by rw [HF.out]; exact Fresh.nil _)
      rw [← HL.out] at hfr
      obtain ⟨fq, hs, hf⟩ := hfr
      have HS := Lib.hid hs
      have HFQ := Lib.hid (hf.of_le gB.size)
      have HN := Lib.hid (show unjOf (g0, g1) t0 (p0, p1) (m0, m1) = L by rw [HL.out, List.take_length, HJ.out]; rfl)
      clear hs hf
      go_wp2_with fail
      go_ret
      exact ⟨_, fq, rfl, by rw [HN.out]; exact HS.out.gr (by repeat (first | exact Gr.refl _ | apply Gr.ext | apply Gr.alloc | apply Gr.drew)), HFQ.out, gB.trans (HGR.out.trans (by repeat (first | exact Gr.refl _ | apply Gr.ext | apply Gr.alloc | apply Gr.drew)))⟩
end Go.Proofs.YtbfmeiooeaaibaaGreat
