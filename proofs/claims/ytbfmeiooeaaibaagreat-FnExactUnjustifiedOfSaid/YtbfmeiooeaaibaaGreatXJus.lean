/- Justified evaluations, plainly; the symbol of a node by its Id; the test on readings. IsJustified of the program. No condition. -/
import Derived.Test.YtbfmeiooeaaibaaGreatXSrcP
import Derived.Test.YtbfmeiooeaaibaaGreatXMem
import Derived.Test.YtbfmeiooeaaibaaGreatSrcI
namespace Go.Proofs.YtbfmeiooeaaibaaGreat
open Go.RowKit
variable {d : Nat}
set_option linter.unusedVariables false

/-- Is a reading not confirmed? -/
def readOld (g : GGrammar d) (t : List GNode) (now : GMemo) (r : GReading) : Bool :=
  if r.1.2 = ByteArray.empty then decide (symAt g t (nodeIx t r.1.1) ≠ r.2.2)
  else match lookE now.1 r.1 with | none => true | some e => decide (e.2.1 ≠ r.2.1)
/-- Had an instance to be evaluated again? -/
def justB (g : GGrammar d) (t : List GNode) (old now : GMemo) (x : GInstance) : Bool :=
  match lookE old.1 x with
  | none => true
  | some e => if sameSrc e (srcOf g t x) = true then e.2.2.2.2.2.2.2.any (readOld g t now) else true

theorem justB_none {g : GGrammar d} {t : List GNode} {old now : GMemo} {x : GInstance} (h : lookE old.1 x = none) : justB g t old now x = true := by unfold justB; rw [h]
theorem justB_src {g : GGrammar d} {t : List GNode} {old now : GMemo} {x : GInstance} {e : GEntry} (h : lookE old.1 x = some e) (hs : sameSrc e (srcOf g t x) = false) : justB g t old now x = true := by unfold justB; rw [h]; simp only; rw [if_neg (by rw [hs]; decide)]
theorem justB_reads {g : GGrammar d} {t : List GNode} {old now : GMemo} {x : GInstance} {e : GEntry} (h : lookE old.1 x = some e) (hs : sameSrc e (srcOf g t x) = true) : justB g t old now x = e.2.2.2.2.2.2.2.any (readOld g t now) := by unfold justB; rw [h]; simp only; rw [if_pos hs]
theorem readOld_node {g : GGrammar d} {t : List GNode} {now : GMemo} {n v : Int} {s : ByteArray} : readOld g t now ((n, ByteArray.empty), v, s) = decide (symAt g t (nodeIx t n) ≠ s) := by unfold readOld; rw [if_pos rfl]
theorem readOld_none {g : GGrammar d} {t : List GNode} {now : GMemo} {r : GReading} (h : r.1.2 ≠ ByteArray.empty) (hn : lookE now.1 r.1 = none) : readOld g t now r = true := by unfold readOld; rw [if_neg h, hn]
theorem readOld_some {g : GGrammar d} {t : List GNode} {now : GMemo} {r : GReading} {e : GEntry} (h : r.1.2 ≠ ByteArray.empty) (hn : lookE now.1 r.1 = some e) : readOld g t now r = decide (e.2.1 ≠ r.2.1) := by unfold readOld; rw [if_neg h, hn]

set_option maxRecDepth 10000 in
set_option maxHeartbeats 4000000 in
theorem implSymbolOf_any {fg : List Nat} {cg : Array Value} (g : (GGrammar d)) {ft : List Nat} {ct : Array Value} (t : GTree) (i : Int) (w : World) (hg : Rd.rd fg w cg.toList g) (ht : Rd.rd ft w ct.toList t) :
    Calls Tryz.prog 72 #[.agg cg, .agg ct, .int .i64 i] w fun e w' => e = .returned (.string (symAt g t (nodeIx t i))) ∧ Gr w w' := by
  have HG := Lib.hid hg
  obtain ⟨g0, g1⟩ := g
  obtain ⟨vg0, fg0, vg1, fg1, rfl, hfpg, hg0, hg1⟩ := rdGrammar_inv g0 g1 hg
  have FPg := Lib.hid hfpg
  clear hfpg
  obtain ⟨ag0, kg0, rfl, og01, og02, og03⟩ := hg0.open
  obtain ⟨ag1, kg1, rfl, og11, og12, og13⟩ := hg1.open
  clear hg
  have HT := Lib.hid ht
  obtain ⟨t0, rfl⟩ : ∃ y, y = t := ⟨t, rfl⟩
  obtain ⟨vt0, ft0, rfl, hfpt, ht0⟩ := rdTree_inv t0 ht
  have FPt := Lib.hid hfpt
  clear hfpt
  obtain ⟨at0, kt0, rfl, ot01, ot02, ot03⟩ := ht0.open
  clear ht
  have HC1 := Lib.hid (fun x : Ext => implNodeIx_any t0 i (((w.alloc (.cells #[.slice ag0 g0.length kg0, .slice ag1 g1.length kg1] 43)).alloc (.cells #[.slice at0 t0.length kt0] 47)).ext x) (Rd.gr HT.out (by repeat (first | exact Gr.refl _ | apply Gr.ext | apply Gr.alloc | apply Gr.drew))))
  have HC2 := Lib.hid (fun x : Ext => implSymOf_any (g0, g1) t0 (nodeIx t0 i) (((w.alloc (.cells #[.slice ag0 g0.length kg0, .slice ag1 g1.length kg1] 43)).alloc (.cells #[.slice at0 t0.length kt0] 47)).ext x) (Rd.gr HG.out (by repeat (first | exact Gr.refl _ | apply Gr.ext | apply Gr.alloc | apply Gr.drew))) (Rd.gr HT.out (by repeat (first | exact Gr.refl _ | apply Gr.ext | apply Gr.alloc | apply Gr.drew))))
  go_enter Tryz.func72, Tryz.ntmps72
  go_wp2_with fail
  refine wp_region_grown (by kernel_rfl) (by kernel_rfl) ?_
  repeat (go_big_quiet_step (first | (go_at_call 90; exact grown_call (HC1.out _)) | (go_at_call 92; exact grown_call (HC2.out _))))
  refine wpQuiet_nil ?_
  intro _ hw'
  obtain ⟨x1, hw''⟩ := hw'
  subst hw''
  go_wp2_with fail
  go_ret
  exact ⟨rfl, (by repeat (first | exact Gr.refl _ | apply Gr.ext | apply Gr.alloc | apply Gr.drew))⟩

theorem ret_ne_str {a b : ByteArray} : (a.toList != b.toList) = decide (a ≠ b) := by
  rw [Bool.eq_iff_iff, bne_iff_ne, decide_eq_true_iff]
  exact ⟨fun h e => h (by rw [e]), fun h e => h (str_inj e)⟩
theorem ret_ne_int {a b : Int} : (a != b) = decide (a ≠ b) := by
  rw [Bool.eq_iff_iff, bne_iff_ne, decide_eq_true_iff]

set_option maxRecDepth 100000 in
set_option maxHeartbeats 8000000 in
theorem justTest_any {fp : List Nat} {cs : Array Value} (y : GReading) {fg : List Nat} {cg : Array Value} (g : GGrammar d) {ft : List Nat} {ct : Array Value} (t : GTree) {fm : List Nat} {cm : Array Value} (m : GMemo) (bg bt bm : Nat) (w : World) (hx : Rd.rd fp w cs.toList y)
    (hg : Rd.rd fg w cg.toList g) (ht : Rd.rd ft w ct.toList t) (hm : Rd.rd fm w cm.toList m) (kg : ∀ j v, cg.toList[j]? = some v → w.cell? ⟨bg, j, none⟩ = some v) (kt : ∀ j v, ct.toList[j]? = some v → w.cell? ⟨bt, j, none⟩ = some v) (km : ∀ j v, cm.toList[j]? = some v → w.cell? ⟨bm, j, none⟩ = some v) :
    Calls Tryz.prog 71 #[.agg cs, .pointer (some ⟨bg, 0, none⟩), .pointer (some ⟨bt, 0, none⟩), .pointer (some ⟨bm, 0, none⟩)] w fun e w' => e = .returned (.bool (readOld g t m y)) ∧ Gr w w' := by
  have HY0 := Lib.hid hx
  obtain ⟨⟨q00, q01⟩, q1, q2⟩ := y
  obtain ⟨rfl, -, hq00, hq01, hq1, hq2⟩ := rdReading_inv q00 q01 q1 q2 hx
  have HI := Lib.hid (rdInstance_mk (w := w) q00 q01 hq00 hq01)
  have HG := Lib.hid hg
  have HT := Lib.hid ht
  have HM := Lib.hid hm
  obtain ⟨ag0, lg0, cg0, ag1, lg1, cg1, rfl⟩ := rdGrammar_shape hg
  obtain ⟨at0, lt0, ct0, rfl⟩ := rdTree_shape ht
  obtain ⟨am0, lm0, cm0, am1, lm1, cm1, rfl⟩ := rdMemo_shape hm
  have c0 := kg 0 _ rfl
  have c1 := kg 1 _ rfl
  have c2 := kt 0 _ rfl
  have c3 := km 0 _ rfl
  have c4 := km 1 _ rfl
  have z0 := blk c0
  have z2 := blk c2
  have z3 := blk c3
  clear kg kt km hg ht hm hx hq00 hq01 hq1 hq2
  by_cases hn : q01 = ByteArray.empty
  · subst hn
    have HC := Lib.hid (fun (W : World) (h : Gr w W) (x : Ext) => implSymbolOf_any g t q00 (W.ext x) (Rd.gr HG.out (h.trans (by repeat (first | exact Gr.refl _ | apply Gr.ext | apply Gr.alloc | apply Gr.drew)))) (Rd.gr HT.out (h.trans (by repeat (first | exact Gr.refl _ | apply Gr.ext | apply Gr.alloc | apply Gr.drew)))))
    have HR := Lib.hid (readOld_node (g := g) (t := t) (now := m) (n := q00) (v := q1) (s := q2))
    go_enter Tryz.func71, Tryz.ntmps71
    go_wp2_with fail
    refine wp_region_grown (by kernel_rfl) (by kernel_rfl) ?_
    repeat (go_big_quiet_step (first | (go_at_call 72; exact grown_call (HC.out _ (by repeat (first | exact Gr.refl _ | apply Gr.ext | apply Gr.alloc | apply Gr.drew)) _))))
    refine wpQuiet_nil ?_
    intro _ hw'
    obtain ⟨x1, hw''⟩ := hw'
    subst hw''
    go_wp2_with fail
    go_ret
    exact ⟨ret_bool (by rw [HR.out]; exact ret_ne_str), (by repeat (first | exact Gr.refl _ | apply Gr.ext | apply Gr.alloc | apply Gr.drew))⟩
  · have e0 : q01.toList.isEmpty = false := by
      cases h : q01.toList with
      | nil => exact absurd (str_inj (h.trans (show ([] : List UInt8) = ByteArray.empty.toList by simp [ByteArray.toList_eq]))) hn
      | cons a l => rfl
    have HN := Lib.hid hn
    clear hn
    go_enter Tryz.func71, Tryz.ntmps71
    go_wp2_with fail
    refine (findEntry_any _ _ _ _ m (q00, q01) _ (Rd.gr HM.out (by repeat (first | exact Gr.refl _ | apply Gr.ext | apply Gr.alloc | apply Gr.drew))) (Rd.gr HI.out (by repeat (first | exact Gr.refl _ | apply Gr.ext | apply Gr.alloc | apply Gr.drew)))).mono ?_
    rintro e w' ⟨es, fq, rfl, hr, -, x1, rfl⟩
    obtain ⟨yr, hyr⟩ : ∃ y, y = (lookE m.1 (q00, q01)).getD zeroE := ⟨_, rfl⟩; have hr1r := hr; change Rd.rd fq _ es.toList ((lookE m.1 (q00, q01)).getD zeroE) at hr1r; rw [← hyr] at hr1r; have HYr := Lib.hid hyr; have HRr := Lib.hid hr1r; obtain ⟨⟨r00, r01⟩, r1, r2, r3, r4, r5, r6, r7⟩ := yr; obtain ⟨vr5, fr5, vr6, fr6, vr7, fr7, rfl, hfqr, hr00, hr01, hr1, hr2, hr3, hr4, hr5, hr6, hr7⟩ := rdEntry_inv r00 r01 r1 r2 r3 r4 r5 r6 r7 hr1r; have FQr := Lib.hid hfqr; clear hfqr; obtain ⟨ar5, kr5, rfl, or51, or52, or53⟩ := hr5.open; obtain ⟨ar6, kr6, rfl, or61, or62, or63⟩ := hr6.open; obtain ⟨ar7, kr7, rfl, or71, or72, or73⟩ := hr7.open; clear hr hr1r hyr; obtain ⟨bb, hbb⟩ : ∃ b : Bool, b = (lookE m.1 (q00, q01)).isSome := ⟨_, rfl⟩; rw [← hbb]; have Hbb := Lib.hid hbb; clear hbb
    cases bb with
    | false =>
      have HR := Lib.hid (readOld_none (g := g) (t := t) (now := m) (r := ((q00, q01), q1, q2)) HN.out (none_of_isSome Hbb.out.symm))
      go_wp2_with fail
      go_ret
      exact ⟨ret_bool HR.out.symm, (by repeat (first | exact Gr.refl _ | apply Gr.ext | apply Gr.alloc | apply Gr.drew))⟩
    | true =>
      have HR := Lib.hid (readOld_some (g := g) (t := t) (now := m) (r := ((q00, q01), q1, q2)) HN.out (some_of_getD Hbb.out.symm HYr.out.symm))
      go_wp2_with fail
      go_ret
      exact ⟨ret_bool (by rw [HR.out]; exact ret_ne_int), (by repeat (first | exact Gr.refl _ | apply Gr.ext | apply Gr.alloc | apply Gr.drew))⟩
end Go.Proofs.YtbfmeiooeaaibaaGreat

namespace Go.Proofs.YtbfmeiooeaaibaaGreat
open Go.RowKit
variable {d : Nat}
set_option linter.unusedVariables false
set_option linter.unusedSimpArgs false

set_option maxRecDepth 100000 in
set_option maxHeartbeats 16000000 in
theorem implJust_any {fg : List Nat} {cg : Array Value} (g : (GGrammar d)) {ft : List Nat} {ct : Array Value} (t : GTree) {fp : List Nat} {cp : Array Value} (p : GMemo) {fm : List Nat} {cm : Array Value} (m : GMemo) {fx : List Nat} {cx : Array Value} (x : GInstance) (w : World) (hg : Rd.rd fg w cg.toList g) (ht : Rd.rd ft w ct.toList t) (hp : Rd.rd fp w cp.toList p) (hm : Rd.rd fm w cm.toList m) (hx : Rd.rd fx w cx.toList x) (hl : wtGrammar g ≤ 1048576) (hl2 : wtTree t ≤ 1048576) :
    Calls Tryz.prog 24 #[.agg cg, .agg ct, .agg cp, .agg cm, .agg cx] w fun e w' => e = .returned (.bool (justB g t p m x)) ∧ Gr w w' := by
  have HWT := Lib.hid hl
  have HWT2 := Lib.hid hl2
  clear hl hl2
  have HG := Lib.hid hg
  obtain ⟨g0, g1⟩ := g
  obtain ⟨vg0, fg0, vg1, fg1, rfl, hfpg, hg0, hg1⟩ := rdGrammar_inv g0 g1 hg
  have FPg := Lib.hid hfpg
  clear hfpg
  obtain ⟨ag0, kg0, rfl, og01, og02, og03⟩ := hg0.open
  obtain ⟨ag1, kg1, rfl, og11, og12, og13⟩ := hg1.open
  clear hg
  have HT := Lib.hid ht
  obtain ⟨t0, rfl⟩ : ∃ y, y = t := ⟨t, rfl⟩
  obtain ⟨vt0, ft0, rfl, hfpt, ht0⟩ := rdTree_inv t0 ht
  have FPt := Lib.hid hfpt
  clear hfpt
  obtain ⟨at0, kt0, rfl, ot01, ot02, ot03⟩ := ht0.open
  clear ht
  have HP := Lib.hid hp
  obtain ⟨p0, p1⟩ := p
  obtain ⟨vp0, fp0, vp1, fp1, rfl, hfpp, hp0, hp1⟩ := rdMemo_inv p0 p1 hp
  have FPp := Lib.hid hfpp
  clear hfpp
  obtain ⟨ap0, kp0, rfl, op01, op02, op03⟩ := hp0.open
  obtain ⟨ap1, kp1, rfl, op11, op12, op13⟩ := hp1.open
  clear hp
  have HM := Lib.hid hm
  obtain ⟨m0, m1⟩ := m
  obtain ⟨vm0, fm0, vm1, fm1, rfl, hfpm, hm0, hm1⟩ := rdMemo_inv m0 m1 hm
  have FPm := Lib.hid hfpm
  clear hfpm
  obtain ⟨am0, km0, rfl, om01, om02, om03⟩ := hm0.open
  obtain ⟨am1, km1, rfl, om11, om12, om13⟩ := hm1.open
  clear hm
  have HX := Lib.hid hx
  obtain ⟨x0, x1⟩ := x
  obtain ⟨rfl, hfpx, hx0, hx1⟩ := rdInstance_inv x0 x1 hx
  have FPx := Lib.hid hfpx
  clear hfpx
  clear hx
  go_enter Tryz.func24, Tryz.ntmps24
  go_wp2_with fail
  generalize hB : (((((w.alloc (.cells #[.slice ag0 g0.length kg0, .slice ag1 g1.length kg1] 43)).alloc (.cells #[.slice at0 t0.length kt0] 47)).alloc (.cells #[.slice ap0 p0.length kp0, .slice ap1 p1.length kp1] 66)).alloc (.cells #[.slice am0 m0.length km0, .slice am1 m1.length km1] 66)).alloc (.cells #[.int .i64 x0, .string x1] 34)) = B
  have gB : Gr w B := by rw [← hB]; exact (by repeat (first | exact Gr.refl _ | apply Gr.ext | apply Gr.alloc | apply Gr.drew))
  have bB0 : ∀ w' : World, Gr B w' → w'.cell? ⟨w.heap.size, 0, none⟩ = some (.slice ag0 g0.length kg0) := fun w' hg => hg.keep (by rw [← hB]; repeat (first | ((with_reducible refine box_cell ?_ ?_) <;> first | omega | (simp; done) | (simp; omega) | rfl) | (with_reducible refine Gr.keep (Gr.alloc (Gr.refl _) _) ?_) | (with_reducible refine Gr.keep (Gr.ext (Gr.refl _) _) ?_) | (with_reducible refine Gr.keep (Gr.drew (Gr.refl _)) ?_)))
  have bB1 : ∀ w' : World, Gr B w' → w'.cell? ⟨w.heap.size, 1, none⟩ = some (.slice ag1 g1.length kg1) := fun w' hg => hg.keep (by rw [← hB]; repeat (first | ((with_reducible refine box_cell ?_ ?_) <;> first | omega | (simp; done) | (simp; omega) | rfl) | (with_reducible refine Gr.keep (Gr.alloc (Gr.refl _) _) ?_) | (with_reducible refine Gr.keep (Gr.ext (Gr.refl _) _) ?_) | (with_reducible refine Gr.keep (Gr.drew (Gr.refl _)) ?_)))
  have bB2 : ∀ w' : World, Gr B w' → w'.cell? ⟨w.heap.size + 1, 0, none⟩ = some (.slice at0 t0.length kt0) := fun w' hg => hg.keep (by rw [← hB]; repeat (first | ((with_reducible refine box_cell ?_ ?_) <;> first | omega | (simp; done) | (simp; omega) | rfl) | (with_reducible refine Gr.keep (Gr.alloc (Gr.refl _) _) ?_) | (with_reducible refine Gr.keep (Gr.ext (Gr.refl _) _) ?_) | (with_reducible refine Gr.keep (Gr.drew (Gr.refl _)) ?_)))
  have bB3 : ∀ w' : World, Gr B w' → w'.cell? ⟨w.heap.size + 1 + 1, 0, none⟩ = some (.slice ap0 p0.length kp0) := fun w' hg => hg.keep (by rw [← hB]; repeat (first | ((with_reducible refine box_cell ?_ ?_) <;> first | omega | (simp; done) | (simp; omega) | rfl) | (with_reducible refine Gr.keep (Gr.alloc (Gr.refl _) _) ?_) | (with_reducible refine Gr.keep (Gr.ext (Gr.refl _) _) ?_) | (with_reducible refine Gr.keep (Gr.drew (Gr.refl _)) ?_)))
  have bB4 : ∀ w' : World, Gr B w' → w'.cell? ⟨w.heap.size + 1 + 1, 1, none⟩ = some (.slice ap1 p1.length kp1) := fun w' hg => hg.keep (by rw [← hB]; repeat (first | ((with_reducible refine box_cell ?_ ?_) <;> first | omega | (simp; done) | (simp; omega) | rfl) | (with_reducible refine Gr.keep (Gr.alloc (Gr.refl _) _) ?_) | (with_reducible refine Gr.keep (Gr.ext (Gr.refl _) _) ?_) | (with_reducible refine Gr.keep (Gr.drew (Gr.refl _)) ?_)))
  have bB5 : ∀ w' : World, Gr B w' → w'.cell? ⟨w.heap.size + 1 + 1 + 1, 0, none⟩ = some (.slice am0 m0.length km0) := fun w' hg => hg.keep (by rw [← hB]; repeat (first | ((with_reducible refine box_cell ?_ ?_) <;> first | omega | (simp; done) | (simp; omega) | rfl) | (with_reducible refine Gr.keep (Gr.alloc (Gr.refl _) _) ?_) | (with_reducible refine Gr.keep (Gr.ext (Gr.refl _) _) ?_) | (with_reducible refine Gr.keep (Gr.drew (Gr.refl _)) ?_)))
  have bB6 : ∀ w' : World, Gr B w' → w'.cell? ⟨w.heap.size + 1 + 1 + 1, 1, none⟩ = some (.slice am1 m1.length km1) := fun w' hg => hg.keep (by rw [← hB]; repeat (first | ((with_reducible refine box_cell ?_ ?_) <;> first | omega | (simp; done) | (simp; omega) | rfl) | (with_reducible refine Gr.keep (Gr.alloc (Gr.refl _) _) ?_) | (with_reducible refine Gr.keep (Gr.ext (Gr.refl _) _) ?_) | (with_reducible refine Gr.keep (Gr.drew (Gr.refl _)) ?_)))
  have bB7 : ∀ w' : World, Gr B w' → w'.cell? ⟨w.heap.size + 1 + 1 + 1 + 1, 0, none⟩ = some (.int .i64 x0) := fun w' hg => hg.keep (by rw [← hB]; repeat (first | ((with_reducible refine box_cell ?_ ?_) <;> first | omega | (simp; done) | (simp; omega) | rfl) | (with_reducible refine Gr.keep (Gr.alloc (Gr.refl _) _) ?_) | (with_reducible refine Gr.keep (Gr.ext (Gr.refl _) _) ?_) | (with_reducible refine Gr.keep (Gr.drew (Gr.refl _)) ?_)))
  have bB8 : ∀ w' : World, Gr B w' → w'.cell? ⟨w.heap.size + 1 + 1 + 1 + 1, 1, none⟩ = some (.string x1) := fun w' hg => hg.keep (by rw [← hB]; repeat (first | ((with_reducible refine box_cell ?_ ?_) <;> first | omega | (simp; done) | (simp; omega) | rfl) | (with_reducible refine Gr.keep (Gr.alloc (Gr.refl _) _) ?_) | (with_reducible refine Gr.keep (Gr.ext (Gr.refl _) _) ?_) | (with_reducible refine Gr.keep (Gr.drew (Gr.refl _)) ?_)))
  have bB9 : ∀ w' : World, Gr B w' → w'.cell? ⟨w.heap.size + 2, 0, none⟩ = some (.slice ap0 p0.length kp0) := fun w' hg => hg.keep (by rw [← hB]; repeat (first | ((with_reducible refine box_cell ?_ ?_) <;> first | omega | (simp; done) | (simp; omega) | rfl) | (with_reducible refine Gr.keep (Gr.alloc (Gr.refl _) _) ?_) | (with_reducible refine Gr.keep (Gr.ext (Gr.refl _) _) ?_) | (with_reducible refine Gr.keep (Gr.drew (Gr.refl _)) ?_)))
  have bB10 : ∀ w' : World, Gr B w' → w'.cell? ⟨w.heap.size + 2, 1, none⟩ = some (.slice ap1 p1.length kp1) := fun w' hg => hg.keep (by rw [← hB]; repeat (first | ((with_reducible refine box_cell ?_ ?_) <;> first | omega | (simp; done) | (simp; omega) | rfl) | (with_reducible refine Gr.keep (Gr.alloc (Gr.refl _) _) ?_) | (with_reducible refine Gr.keep (Gr.ext (Gr.refl _) _) ?_) | (with_reducible refine Gr.keep (Gr.drew (Gr.refl _)) ?_)))
  have bB11 : ∀ w' : World, Gr B w' → w'.cell? ⟨w.heap.size + 3, 0, none⟩ = some (.slice am0 m0.length km0) := fun w' hg => hg.keep (by rw [← hB]; repeat (first | ((with_reducible refine box_cell ?_ ?_) <;> first | omega | (simp; done) | (simp; omega) | rfl) | (with_reducible refine Gr.keep (Gr.alloc (Gr.refl _) _) ?_) | (with_reducible refine Gr.keep (Gr.ext (Gr.refl _) _) ?_) | (with_reducible refine Gr.keep (Gr.drew (Gr.refl _)) ?_)))
  have bB12 : ∀ w' : World, Gr B w' → w'.cell? ⟨w.heap.size + 3, 1, none⟩ = some (.slice am1 m1.length km1) := fun w' hg => hg.keep (by rw [← hB]; repeat (first | ((with_reducible refine box_cell ?_ ?_) <;> first | omega | (simp; done) | (simp; omega) | rfl) | (with_reducible refine Gr.keep (Gr.alloc (Gr.refl _) _) ?_) | (with_reducible refine Gr.keep (Gr.ext (Gr.refl _) _) ?_) | (with_reducible refine Gr.keep (Gr.drew (Gr.refl _)) ?_)))
  have bB13 : ∀ w' : World, Gr B w' → w'.cell? ⟨w.heap.size + 4, 0, none⟩ = some (.int .i64 x0) := fun w' hg => hg.keep (by rw [← hB]; repeat (first | ((with_reducible refine box_cell ?_ ?_) <;> first | omega | (simp; done) | (simp; omega) | rfl) | (with_reducible refine Gr.keep (Gr.alloc (Gr.refl _) _) ?_) | (with_reducible refine Gr.keep (Gr.ext (Gr.refl _) _) ?_) | (with_reducible refine Gr.keep (Gr.drew (Gr.refl _)) ?_)))
  have bB14 : ∀ w' : World, Gr B w' → w'.cell? ⟨w.heap.size + 4, 1, none⟩ = some (.string x1) := fun w' hg => hg.keep (by rw [← hB]; repeat (first | ((with_reducible refine box_cell ?_ ?_) <;> first | omega | (simp; done) | (simp; omega) | rfl) | (with_reducible refine Gr.keep (Gr.alloc (Gr.refl _) _) ?_) | (with_reducible refine Gr.keep (Gr.ext (Gr.refl _) _) ?_) | (with_reducible refine Gr.keep (Gr.drew (Gr.refl _)) ?_)))
  have sB : B.heap.size = w.heap.size + 5 := by rw [← hB]; first | (simp; done) | (simp; omega)
  have EB := Lib.hid hB
  clear hB
  have HSB := Lib.hid sB
  clear sB
  refine (findEntry_any _ _ _ _ (p0, p1) (x0, x1) _ (Rd.gr HP.out gB) (Rd.gr HX.out gB)).mono ?_
  rintro e W1 ⟨es, fq, rfl, hr, -, g1'⟩
  obtain ⟨yr, hyr⟩ : ∃ y, y = (lookE p0 (x0, x1)).getD zeroE := ⟨_, rfl⟩; have hr1r := hr; change Rd.rd fq _ es.toList ((lookE p0 (x0, x1)).getD zeroE) at hr1r; rw [← hyr] at hr1r; have HYr := Lib.hid hyr; have HRr := Lib.hid hr1r; obtain ⟨⟨r00, r01⟩, r1, r2, r3, r4, r5, r6, r7⟩ := yr; obtain ⟨vr5, fr5, vr6, fr6, vr7, fr7, rfl, hfqr, hr00, hr01, hr1, hr2, hr3, hr4, hr5, hr6, hr7⟩ := rdEntry_inv r00 r01 r1 r2 r3 r4 r5 r6 r7 hr1r; have FQr := Lib.hid hfqr; clear hfqr; obtain ⟨ar5, kr5, rfl, or51, or52, or53⟩ := hr5.open; obtain ⟨ar6, kr6, rfl, or61, or62, or63⟩ := hr6.open; obtain ⟨ar7, kr7, rfl, or71, or72, or73⟩ := hr7.open; clear hr hr1r hyr; obtain ⟨bb, hbb⟩ : ∃ b : Bool, b = (lookE p0 (x0, x1)).isSome := ⟨_, rfl⟩; rw [← hbb]; have Hbb := Lib.hid hbb; clear hbb
  have HGB := Lib.hid gB
  have HB1 := Lib.hid g1'
  have y0 := bB0 _ g1'
  have y1 := bB1 _ g1'
  have y2 := bB2 _ g1'
  have y3 := bB3 _ g1'
  have y4 := bB4 _ g1'
  have y5 := bB5 _ g1'
  have y6 := bB6 _ g1'
  have y7 := bB7 _ g1'
  have y8 := bB8 _ g1'
  have zy0 := blk y0
  have zy2 := blk y2
  have zy3 := blk y3
  have zy5 := blk y5
  have zy7 := blk y7
  clear g1'
  cases bb with
  | false =>
    have HJ := Lib.hid (justB_none (g := (g0, g1)) (t := t0) (old := (p0, p1)) (now := (m0, m1)) (x := (x0, x1)) (none_of_isSome Hbb.out.symm))
    go_wp2_with fail
    refine wp_region_grown (by kernel_rfl) (by kernel_rfl) ?_
    repeat (go_big_quiet_step (fail))
    refine wpQuiet_nil ?_
    intro _ hw'
    obtain ⟨x3, hw''⟩ := hw'
    subst hw''
    go_wp2_with fail
    go_ret
    exact ⟨ret_bool HJ.out.symm, HGB.out.trans (HB1.out.trans (by repeat (first | exact Gr.refl _ | apply Gr.ext | apply Gr.alloc | apply Gr.drew)))⟩
  | true =>
    have hlk : lookE p0 (x0, x1) = some ((r00, r01), r1, r2, r3, r4, r5, r6, r7) := some_of_getD Hbb.out.symm HYr.out.symm
    have HLK := Lib.hid hlk
    obtain ⟨sm, hsm⟩ : ∃ b, b = sameSrc ((r00, r01), r1, r2, r3, r4, r5, r6, r7) (srcOf (g0, g1) t0 (x0, x1)) := ⟨_, rfl⟩
    have HSM := Lib.hid hsm
    have HTT : Hid (∀ W, Gr B W → TestReading W 71 #[.pointer (some ⟨w.heap.size, 0, none⟩), .pointer (some ⟨w.heap.size + 1, 0, none⟩), .pointer (some ⟨w.heap.size + 1 + 1 + 1, 0, none⟩)] (readOld (g0, g1) t0 (m0, m1)) r7) :=
      Lib.hid (fun W hW => ⟨Tryz.call71, fun y _ x fp cs hy => justTest_any y (g0, g1) t0 (m0, m1) w.heap.size (w.heap.size + 1) (w.heap.size + 1 + 1 + 1) (W.ext x) hy (Rd.gr HG.out (HGB.out.trans (hW.ext x))) (Rd.gr HT.out (HGB.out.trans (hW.ext x))) (Rd.gr HM.out (HGB.out.trans (hW.ext x)))
        (fun j v hj => match j, hj with
          | 0, hj => by obtain rfl := Option.some.inj hj; exact bB0 _ (hW.ext x)
          | 1, hj => by obtain rfl := Option.some.inj hj; exact bB1 _ (hW.ext x))
        (fun j v hj => match j, hj with
          | 0, hj => by obtain rfl := Option.some.inj hj; exact bB2 _ (hW.ext x))
        (fun j v hj => match j, hj with
          | 0, hj => by obtain rfl := Option.some.inj hj; exact bB5 _ (hW.ext x)
          | 1, hj => by obtain rfl := Option.some.inj hj; exact bB6 _ (hW.ext x))⟩)
    have HR7 := Lib.hid hr7
    clear hlk hsm hr7
    go_wp2_with fail
    generalize hC : W1.alloc (.cells #[.int .i64 r00, .string r01, .int .i64 r1, .int .i64 r2, .int .i64 r3, .string r4, .slice ar5 r5.length kr5, .slice ar6 r6.length kr6, .slice ar7 r7.length kr7] 38) = C
    have g1C : Gr W1 C := by rw [← hC]; exact (by repeat (first | exact Gr.refl _ | apply Gr.ext | apply Gr.alloc | apply Gr.drew))
    have HGC := Lib.hid (HGB.out.trans (HB1.out.trans g1C))
    have HBC := Lib.hid (HB1.out.trans g1C)
    have H1C := Lib.hid g1C
    have n0 : C.cell? ⟨W1.heap.size, 0, none⟩ = some (.int .i64 r00) := by rw [← hC]; repeat (first | ((with_reducible refine box_cell ?_ ?_) <;> first | omega | (simp; done) | (simp; omega) | rfl) | (with_reducible refine Gr.keep (Gr.alloc (Gr.refl _) _) ?_) | (with_reducible refine Gr.keep (Gr.ext (Gr.refl _) _) ?_) | (with_reducible refine Gr.keep (Gr.drew (Gr.refl _)) ?_))
    have n1 : C.cell? ⟨W1.heap.size, 1, none⟩ = some (.string r01) := by rw [← hC]; repeat (first | ((with_reducible refine box_cell ?_ ?_) <;> first | omega | (simp; done) | (simp; omega) | rfl) | (with_reducible refine Gr.keep (Gr.alloc (Gr.refl _) _) ?_) | (with_reducible refine Gr.keep (Gr.ext (Gr.refl _) _) ?_) | (with_reducible refine Gr.keep (Gr.drew (Gr.refl _)) ?_))
    have n2 : C.cell? ⟨W1.heap.size, 2, none⟩ = some (.int .i64 r1) := by rw [← hC]; repeat (first | ((with_reducible refine box_cell ?_ ?_) <;> first | omega | (simp; done) | (simp; omega) | rfl) | (with_reducible refine Gr.keep (Gr.alloc (Gr.refl _) _) ?_) | (with_reducible refine Gr.keep (Gr.ext (Gr.refl _) _) ?_) | (with_reducible refine Gr.keep (Gr.drew (Gr.refl _)) ?_))
    have n3 : C.cell? ⟨W1.heap.size, 3, none⟩ = some (.int .i64 r2) := by rw [← hC]; repeat (first | ((with_reducible refine box_cell ?_ ?_) <;> first | omega | (simp; done) | (simp; omega) | rfl) | (with_reducible refine Gr.keep (Gr.alloc (Gr.refl _) _) ?_) | (with_reducible refine Gr.keep (Gr.ext (Gr.refl _) _) ?_) | (with_reducible refine Gr.keep (Gr.drew (Gr.refl _)) ?_))
    have n4 : C.cell? ⟨W1.heap.size, 4, none⟩ = some (.int .i64 r3) := by rw [← hC]; repeat (first | ((with_reducible refine box_cell ?_ ?_) <;> first | omega | (simp; done) | (simp; omega) | rfl) | (with_reducible refine Gr.keep (Gr.alloc (Gr.refl _) _) ?_) | (with_reducible refine Gr.keep (Gr.ext (Gr.refl _) _) ?_) | (with_reducible refine Gr.keep (Gr.drew (Gr.refl _)) ?_))
    have n5 : C.cell? ⟨W1.heap.size, 5, none⟩ = some (.string r4) := by rw [← hC]; repeat (first | ((with_reducible refine box_cell ?_ ?_) <;> first | omega | (simp; done) | (simp; omega) | rfl) | (with_reducible refine Gr.keep (Gr.alloc (Gr.refl _) _) ?_) | (with_reducible refine Gr.keep (Gr.ext (Gr.refl _) _) ?_) | (with_reducible refine Gr.keep (Gr.drew (Gr.refl _)) ?_))
    have n6 : C.cell? ⟨W1.heap.size, 6, none⟩ = some (.slice ar5 r5.length kr5) := by rw [← hC]; repeat (first | ((with_reducible refine box_cell ?_ ?_) <;> first | omega | (simp; done) | (simp; omega) | rfl) | (with_reducible refine Gr.keep (Gr.alloc (Gr.refl _) _) ?_) | (with_reducible refine Gr.keep (Gr.ext (Gr.refl _) _) ?_) | (with_reducible refine Gr.keep (Gr.drew (Gr.refl _)) ?_))
    have n7 : C.cell? ⟨W1.heap.size, 7, none⟩ = some (.slice ar6 r6.length kr6) := by rw [← hC]; repeat (first | ((with_reducible refine box_cell ?_ ?_) <;> first | omega | (simp; done) | (simp; omega) | rfl) | (with_reducible refine Gr.keep (Gr.alloc (Gr.refl _) _) ?_) | (with_reducible refine Gr.keep (Gr.ext (Gr.refl _) _) ?_) | (with_reducible refine Gr.keep (Gr.drew (Gr.refl _)) ?_))
    have n8 : C.cell? ⟨W1.heap.size, 8, none⟩ = some (.slice ar7 r7.length kr7) := by rw [← hC]; repeat (first | ((with_reducible refine box_cell ?_ ?_) <;> first | omega | (simp; done) | (simp; omega) | rfl) | (with_reducible refine Gr.keep (Gr.alloc (Gr.refl _) _) ?_) | (with_reducible refine Gr.keep (Gr.ext (Gr.refl _) _) ?_) | (with_reducible refine Gr.keep (Gr.drew (Gr.refl _)) ?_))
    clear hC y0 y1 y2 y3 y4 y5 y6 y7 y8 zy0 zy2 zy3 zy5 zy7 g1C
    have zn := blk n0
    have k0 := fun (w' : World) (h : Gr C w') => bB0 _ (HBC.out.trans h)
    have k1 := fun (w' : World) (h : Gr C w') => bB1 _ (HBC.out.trans h)
    have k2 := fun (w' : World) (h : Gr C w') => bB2 _ (HBC.out.trans h)
    have k7 := fun (w' : World) (h : Gr C w') => bB7 _ (HBC.out.trans h)
    have k8 := fun (w' : World) (h : Gr C w') => bB8 _ (HBC.out.trans h)
    have l0 := fun (w' : World) (h : Gr C w') => h.keep n0
    have l1 := fun (w' : World) (h : Gr C w') => h.keep n1
    have l2 := fun (w' : World) (h : Gr C w') => h.keep n2
    have l3 := fun (w' : World) (h : Gr C w') => h.keep n3
    have l4 := fun (w' : World) (h : Gr C w') => h.keep n4
    have l5 := fun (w' : World) (h : Gr C w') => h.keep n5
    have l6 := fun (w' : World) (h : Gr C w') => h.keep n6
    have l7 := fun (w' : World) (h : Gr C w') => h.keep n7
    have l8 := fun (w' : World) (h : Gr C w') => h.keep n8
    go_region_held3 (fun w' => Gr C w') (first | assumption | exact Gr.drew (Gr.refl _) | (repeat (first | assumption | exact Gr.refl _ | apply Gr.ext | apply Gr.alloc | apply Gr.drew)))
      (first | (go_at_call 13; refine (implSrc_any (g0, g1) t0 (x0, x1) _ (Rd.gr HG.out (HGC.out.trans (by first | assumption | exact (by repeat (first | exact Gr.refl _ | apply Gr.ext | apply Gr.alloc | apply Gr.drew))))) (Rd.gr HT.out (HGC.out.trans (by first | assumption | exact (by repeat (first | exact Gr.refl _ | apply Gr.ext | apply Gr.alloc | apply Gr.drew))))) (Rd.gr HX.out (HGC.out.trans (by first | assumption | exact (by repeat (first | exact Gr.refl _ | apply Gr.ext | apply Gr.alloc | apply Gr.drew))))) HWT.out HWT2.out).mono ?_; rintro e w' ⟨ds, fs, rfl, hs, -, x5, rfl⟩; have HS := Lib.hid hs; obtain ⟨s00, s01, s1, s2, s3, s4, as5, ls5, cs5, as6, ls6, cs6, as7, ls7, cs7, rfl⟩ := rdEntry_shape hs; clear hs) | (go_at_call 69; refine (implSame_any _ _ _ _ ((r00, r01), r1, r2, r3, r4, r5, r6, r7) (srcOf (g0, g1) t0 (x0, x1)) _ (Rd.gr HRr.out (H1C.out.trans (by first | assumption | exact (by repeat (first | exact Gr.refl _ | apply Gr.ext | apply Gr.alloc | apply Gr.drew))))) (Rd.gr HS.out (by first | assumption | exact (by repeat (first | exact Gr.refl _ | apply Gr.ext | apply Gr.alloc | apply Gr.drew))))).mono ?_; rintro e w' ⟨rfl, x6, rfl⟩; rw [← HSM.out]))
    have hG9 : Gr C ((C.drew.ext x5).ext x6) := (by repeat (first | exact Gr.refl _ | apply Gr.ext | apply Gr.alloc | apply Gr.drew))
    generalize (C.drew.ext x5).ext x6 = W9 at hG9 ⊢
    have m8 := l8 _ hG9
    have zm8 := blk m8
    have HG9 := Lib.hid hG9
    clear k0 k1 k2 k7 k8 l0 l1 l2 l3 l4 l5 l6 l7 l8 n0 n1 n2 n3 n4 n5 n6 n7 n8 zn hG9
    cases sm with
    | false =>
      have HJ := Lib.hid (justB_src (old := (p0, p1)) (now := (m0, m1)) HLK.out HSM.out.symm)
      go_wp2_with fail
      go_ret
      exact ⟨ret_bool HJ.out.symm, HGC.out.trans (HG9.out.trans (by repeat (first | exact Gr.refl _ | apply Gr.ext | apply Gr.alloc | apply Gr.drew)))⟩
    | true =>
      have HJ := Lib.hid (justB_reads (old := (p0, p1)) (now := (m0, m1)) HLK.out HSM.out.symm)
      go_wp2_with fail
      refine (containsFuncReading_any _ _ r7 _ _ _ _ (HR7.out.gr (H1C.out.trans (HG9.out.trans (by repeat (first | exact Gr.refl _ | apply Gr.ext | apply Gr.alloc | apply Gr.drew))))) (HTT.out _ (HBC.out.trans (HG9.out.trans (by repeat (first | exact Gr.refl _ | apply Gr.ext | apply Gr.alloc | apply Gr.drew)))))).mono ?_
      rintro e w' ⟨rfl, x7, rfl⟩
      go_wp2_with fail
      go_ret
      exact ⟨ret_bool HJ.out.symm, HGC.out.trans (HG9.out.trans (by repeat (first | exact Gr.refl _ | apply Gr.ext | apply Gr.alloc | apply Gr.drew)))⟩
end Go.Proofs.YtbfmeiooeaaibaaGreat
