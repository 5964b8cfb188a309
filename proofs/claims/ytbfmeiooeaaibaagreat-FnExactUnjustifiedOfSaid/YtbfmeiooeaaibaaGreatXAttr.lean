/- The instances of a tree: plain words, and a row of one's own that is handed back. The attribute of an instance: the program's. No condition. -/
import Derived.Test.YtbfmeiooeaaibaaGreatXTree
import Derived.Deep.DeepCutAuto
namespace Go.Proofs.YtbfmeiooeaaibaaGreat
open Go.RowKit
variable {d : Nat}
set_option linter.unusedVariables false

theorem Tryz.infoInstC : (Tryz.prog.info? 34).map (fun i => (i.zero, i.size, i.bytes)) = some (some (.agg #[.int .i64 0, .string ByteArray.empty]), 2, 24) := by kernel_rfl

/-- A function hands back a row in new memory. -/
def MadeS {α : Type} [Rd α] (w : World) (xs : List α) (e : Ending) (w' : World) : Prop :=
  ∃ v fq, e = .returned v ∧ SlR fq w' v xs ∧ Fresh w fq ∧ Gr w w'

theorem getD_len {ss : List GSymbol} (h : wtSymbolS ss ≤ 1048576) (n : ByteArray) : ((lookS ss n).getD zeroS).2.length ≤ 1048576 := by
  unfold lookS
  cases hf : ss.find? (fun s => decide (s.1 = n)) with
  | none => simp [zeroS]
  | some y =>
    have hm := List.mem_of_find?_eq_some hf
    obtain ⟨i, hi, rfl⟩ := List.mem_iff_getElem.1 hm
    have h1 := wtL_at wtSymbol ss hi
    have h2 : (ss[i].2).length ≤ wtSymbol ss[i] := Nat.le_trans (wtL_len wtAttribute _) (Nat.le_add_left _ _)
    have h3 : wtL wtSymbol ss ≤ 1048576 := h
    rw [Option.getD_some]
    omega

theorem flatMap_len {α β : Type} (f : α → List β) (M : Nat) (l : List α) (h : ∀ x ∈ l, (f x).length ≤ M) : (l.flatMap f).length ≤ l.length * M := by
  induction l with
  | nil => simp
  | cons a l ih =>
    rw [List.flatMap_cons, List.length_append, List.length_cons, Nat.add_mul]
    have := h a (by simp)
    have := ih (fun x hx => h x (List.mem_cons_of_mem _ hx))
    omega

theorem instN_len {g : GGrammar d} (h : wtGrammar g ≤ 1048576) (n : GNode) : (instN g n).length ≤ 1048576 := by
  unfold instN
  rw [List.length_map]
  have hw : wtSymbolS g.1 + wtRuleS g.2 ≤ 1048576 := h
  exact getD_len (by omega) _

theorem insts_len {g : GGrammar d} (h : wtGrammar g ≤ 1048576) {t : List GNode} (ht : isTreeB g t = true) (k : Nat) : ((t.take k).flatMap (instN g)).length ≤ 16777216 := by
  have h1 := flatMap_len (instN g) 1048576 (t.take k) (fun x _ => instN_len h x)
  have h2 : (t.take k).length ≤ 16 := by
    have := (treeOf_iff.1 ht).1.2
    rw [List.length_take]; omega
  have := Nat.mul_le_mul_right 1048576 h2
  omega

/-- The box of a symbol that was found. -/
def SymBox (w W : World) (y : GSymbol) (s : Value) (wr : World) : Prop :=
  ∃ b v fq, s = .pointer (some ⟨b, 0, none⟩) ∧ Gr W wr ∧ wr.cell? ⟨b, 0, none⟩ = some (.string y.1) ∧ wr.cell? ⟨b, 1, none⟩ = some v ∧ SlR fq wr v y.2 ∧ y.1.size ≤ maxLen ∧ W.heap.size ≤ b ∧ ∀ c ∈ fq, c < w.heap.size ∨ W.heap.size ≤ c

theorem SlR.blk_mem {α : Type} [Rd α] {fp : List Nat} {w : World} {b off len cap : Nat} {xs : List α} (h : SlR fp w (.slice (some ⟨b, off, none⟩) len cap) xs) (hn : xs ≠ []) : b ∈ fp := by
  obtain ⟨a, c, hv, _, _, ⟨h0, _⟩ | ⟨b', off', fps, _, rfl, rfl, _⟩⟩ := h
  · exact absurd h0 hn
  · injection hv with e1 _ _
    injection e1 with e1
    injection e1 with e1 _ _
    subst e1
    simp

theorem sameOn_box {A : World} {o o' : Obj} {x : Ext} {fp : List Nat} (h : ∀ c ∈ fp, c ≠ A.heap.size) : SameOn fp ((A.alloc o).ext x) ((A.alloc o').ext x) := fun c hc => heap_own x (h c hc)
theorem sameOn_box2 {A : World} {o o' : Obj} {x y : Ext} {fp : List Nat} (h : ∀ c ∈ fp, c ≠ A.heap.size) : SameOn fp (((A.alloc o).ext x).ext y) (((A.alloc o').ext x).ext y) := by
  rw [ext_ext, ext_ext]; exact sameOn_box h

theorem sameOn_box3 {A : World} {o o' : Obj} {x y z : Ext} {fp : List Nat} (h : ∀ c ∈ fp, c ≠ A.heap.size) : SameOn fp ((((A.alloc o).ext x).ext y).ext z) ((((A.alloc o').ext x).ext y).ext z) := by
  rw [ext_ext, ext_ext, ext_ext, ext_ext]; exact sameOn_box h

/-- More writes into a row of one's own that may have moved into a new block. -/
theorem Wr.more {o0 o1 : Option Nat} {W wr w3 : World} (h : Wr o0.toList W wr) (hv : o1 = o0 ∨ ∃ n, o1 = some n ∧ W.heap.size ≤ n) (k : Wr o1.toList wr w3) : Wr o0.toList W w3 :=
  ⟨k.os.trans h.os, k.tape.trans h.tape, k.output.trans h.output, Nat.le_trans h.size k.size, Nat.le_trans h.drawn k.drawn, fun b hb hn => (k.block b (Nat.lt_of_lt_of_le hb h.size) (by
    rcases hv with rfl | ⟨n, rfl, hn2⟩
    · exact hn
    · simp; omega)).trans (h.block b hb hn)⟩
theorem own_moves {o0 o1 o2 : Option Nat} {W wr : World} (hv : o1 = o0 ∨ ∃ n, o1 = some n ∧ W.heap.size ≤ n) (k : o2 = o1 ∨ o2 = some wr.heap.size) (hs : W.heap.size ≤ wr.heap.size) : o2 = o0 ∨ ∃ n, o2 = some n ∧ W.heap.size ≤ n := by
  rcases k with rfl | rfl
  · exact hv
  · exact .inr ⟨_, rfl, hs⟩
end Go.Proofs.YtbfmeiooeaaibaaGreat

namespace Go.Proofs.YtbfmeiooeaaibaaGreat
open Go.RowKit
variable {d : Nat}
set_option linter.unusedVariables false

theorem attrOf_none {g : GGrammar d} {t : List GNode} {x : GInstance} (h : nodeIx t x.1 < 0) : attrOf g t x = none := by unfold attrOf; rw [if_pos h]
theorem attrOf_some {g : GGrammar d} {t : List GNode} {x : GInstance} (h : ¬ nodeIx t x.1 < 0) : attrOf g t x = lookA ((lookS g.1 (symAt g t (nodeIx t x.1))).getD zeroS).2 x.2 := by unfold attrOf; rw [if_neg h]

theorem nodeIx_le (t : List GNode) (i : Int) : -1 ≤ nodeIx t i ∧ nodeIx t i < max (t.length : Int) 1 := by
  unfold nodeIx
  have h1 := idxOf_ge (fun n : GNode => decide (n.1 = i)) t
  have h2 := idxOf_lt (fun n : GNode => decide (n.1 = i)) t
  omega

set_option maxRecDepth 100000 in
set_option maxHeartbeats 16000000 in
theorem implAttr_any {fg : List Nat} {cg : Array Value} (g : (GGrammar d)) {ft : List Nat} {ct : Array Value} (t : GTree) {fx : List Nat} {cx : Array Value} (x : GInstance) (w : World) (hg : Rd.rd fg w cg.toList g) (ht : Rd.rd ft w ct.toList t) (hx : Rd.rd fx w cx.toList x) :
    Calls Tryz.prog 42 #[.agg cg, .agg ct, .agg cx] w (Found [] w (attrOf g t x) zeroA) := by
  skip
  have HG := Lib.hid hg
  obtain ⟨g0, g1⟩ := g
  obtain ⟨vg0, fg0, vg1, fg1, rfl, hfpg, hg0, hg1⟩ := rdGrammar_inv g0 g1 hg
  have FPg := Lib.hid hfpg
  clear hfpg
  obtain ⟨ag0, kg0, rfl, og01, og02, og03⟩ := hg0.open
  obtain ⟨ag1, kg1, rfl, og11, og12, og13⟩ := hg1.open
  clear hg
  have HT := Lib.hid ht
  obtain ⟨t0, rfl⟩ : ∃ y, y = t := ⟨t, rfl⟩
  obtain ⟨vt0, ft0, rfl, hfpt, ht0⟩ := rdTree_inv t0 ht
  have FPt := Lib.hid hfpt
  clear hfpt
  obtain ⟨at0, kt0, rfl, ot01, ot02, ot03⟩ := ht0.open
  clear ht
  have HX := Lib.hid hx
  obtain ⟨x0, x1⟩ := x
  obtain ⟨rfl, hfpx, hx0, hx1⟩ := rdInstance_inv x0 x1 hx
  have FPx := Lib.hid hfpx
  clear hfpx
  clear hx
  have hni := nodeIx_le t0 x0
  by_cases hneg : nodeIx t0 x0 < 0
  · have hno : attrOf (g0, g1) t0 (x0, x1) = none := attrOf_none hneg
    have HNO := Lib.hid hno
    obtain ⟨ix, hix⟩ : ∃ z, z = nodeIx t0 x0 := ⟨_, rfl⟩
    have HIX := Lib.hid hix
    rw [← hix] at hneg hni
    clear hno hix
    go_enter Tryz.func42, Tryz.ntmps42
    go_wp2_with fail
    refine (implNodeIx_any t0 x0 _ (Rd.gr HT.out (by repeat (first | exact Gr.refl _ | apply Gr.ext | apply Gr.alloc | apply Gr.drew)))).mono ?_
    rintro e w' ⟨rfl, z1, rfl⟩
    rw [← HIX.out]
    go_wp2_with fail
    exact bodyPost_ret (v := .tuple #[.agg #[.string ⟨#[]⟩, .int .i64 0, .int .i64 0, .bool false], .bool false])
      (by simp [results, Tryz.results42, go_sem]) rfl ⟨_, _, by rw [HNO.out]; rfl, by rw [HNO.out]; exact zeroA_rd _, by simp, (by repeat (first | exact Gr.refl _ | apply Gr.ext | apply Gr.alloc | apply Gr.drew))⟩
  · have hyes := attrOf_some (g := (g0, g1)) (t := t0) (x := (x0, x1)) hneg
    obtain ⟨ix, hix⟩ : ∃ z, z = nodeIx t0 x0 := ⟨_, rfl⟩
    obtain ⟨Y, hY⟩ : ∃ Y, Y = (lookS g0 (symAt (g0, g1) t0 (nodeIx t0 x0))).getD zeroS := ⟨_, rfl⟩
    have HIX := Lib.hid hix
    simp only at hyes
    rw [← hY] at hyes
    rw [← hix] at hneg hni hY
    have HY := Lib.hid hyes
    have HYY := Lib.hid hY
    clear hyes hix hY
    go_enter Tryz.func42, Tryz.ntmps42
    go_wp2_with fail
    refine (implNodeIx_any t0 x0 _ (Rd.gr HT.out (by repeat (first | exact Gr.refl _ | apply Gr.ext | apply Gr.alloc | apply Gr.drew)))).mono ?_
    rintro e w' ⟨rfl, z1, rfl⟩
    rw [← HIX.out]
    go_wp2_with fail
    generalize hB : ((((w.alloc (.cells #[.slice ag0 g0.length kg0, .slice ag1 g1.length kg1] 43)).alloc (.cells #[.slice at0 t0.length kt0] 47)).alloc (.cells #[.int .i64 x0, .string x1] 34)).alloc (.cells #[.string ⟨#[]⟩, .int .i64 0, .int .i64 0, .bool false] 79)).ext z1 = B
    have gB : Gr w B := by rw [← hB]; exact (by repeat (first | exact Gr.refl _ | apply Gr.ext | apply Gr.alloc | apply Gr.drew))
    have bB0 : ∀ w' : World, Gr B w' → w'.cell? ⟨w.heap.size, 0, none⟩ = some (.slice ag0 g0.length kg0) := fun w' hg => hg.keep (by rw [← hB]; repeat (first | ((with_reducible refine box_cell ?_ ?_) <;> first | omega | (simp; done) | (simp; omega) | rfl) | (with_reducible refine Gr.keep (Gr.alloc (Gr.refl _) _) ?_) | (with_reducible refine Gr.keep (Gr.ext (Gr.refl _) _) ?_) | (with_reducible refine Gr.keep (Gr.drew (Gr.refl _)) ?_)))
    have bB1 : ∀ w' : World, Gr B w' → w'.cell? ⟨w.heap.size, 1, none⟩ = some (.slice ag1 g1.length kg1) := fun w' hg => hg.keep (by rw [← hB]; repeat (first | ((with_reducible refine box_cell ?_ ?_) <;> first | omega | (simp; done) | (simp; omega) | rfl) | (with_reducible refine Gr.keep (Gr.alloc (Gr.refl _) _) ?_) | (with_reducible refine Gr.keep (Gr.ext (Gr.refl _) _) ?_) | (with_reducible refine Gr.keep (Gr.drew (Gr.refl _)) ?_)))
    have bB2 : ∀ w' : World, Gr B w' → w'.cell? ⟨w.heap.size + 1, 0, none⟩ = some (.slice at0 t0.length kt0) := fun w' hg => hg.keep (by rw [← hB]; repeat (first | ((with_reducible refine box_cell ?_ ?_) <;> first | omega | (simp; done) | (simp; omega) | rfl) | (with_reducible refine Gr.keep (Gr.alloc (Gr.refl _) _) ?_) | (with_reducible refine Gr.keep (Gr.ext (Gr.refl _) _) ?_) | (with_reducible refine Gr.keep (Gr.drew (Gr.refl _)) ?_)))
    have bB3 : ∀ w' : World, Gr B w' → w'.cell? ⟨w.heap.size + 1 + 1, 0, none⟩ = some (.int .i64 x0) := fun w' hg => hg.keep (by rw [← hB]; repeat (first | ((with_reducible refine box_cell ?_ ?_) <;> first | omega | (simp; done) | (simp; omega) | rfl) | (with_reducible refine Gr.keep (Gr.alloc (Gr.refl _) _) ?_) | (with_reducible refine Gr.keep (Gr.ext (Gr.refl _) _) ?_) | (with_reducible refine Gr.keep (Gr.drew (Gr.refl _)) ?_)))
    have bB4 : ∀ w' : World, Gr B w' → w'.cell? ⟨w.heap.size + 1 + 1, 1, none⟩ = some (.string x1) := fun w' hg => hg.keep (by rw [← hB]; repeat (first | ((with_reducible refine box_cell ?_ ?_) <;> first | omega | (simp; done) | (simp; omega) | rfl) | (with_reducible refine Gr.keep (Gr.alloc (Gr.refl _) _) ?_) | (with_reducible refine Gr.keep (Gr.ext (Gr.refl _) _) ?_) | (with_reducible refine Gr.keep (Gr.drew (Gr.refl _)) ?_)))
    have bB5 : ∀ w' : World, Gr B w' → w'.cell? ⟨w.heap.size + 2, 0, none⟩ = some (.int .i64 x0) := fun w' hg => hg.keep (by rw [← hB]; repeat (first | ((with_reducible refine box_cell ?_ ?_) <;> first | omega | (simp; done) | (simp; omega) | rfl) | (with_reducible refine Gr.keep (Gr.alloc (Gr.refl _) _) ?_) | (with_reducible refine Gr.keep (Gr.ext (Gr.refl _) _) ?_) | (with_reducible refine Gr.keep (Gr.drew (Gr.refl _)) ?_)))
    have bB6 : ∀ w' : World, Gr B w' → w'.cell? ⟨w.heap.size + 2, 1, none⟩ = some (.string x1) := fun w' hg => hg.keep (by rw [← hB]; repeat (first | ((with_reducible refine box_cell ?_ ?_) <;> first | omega | (simp; done) | (simp; omega) | rfl) | (with_reducible refine Gr.keep (Gr.alloc (Gr.refl _) _) ?_) | (with_reducible refine Gr.keep (Gr.ext (Gr.refl _) _) ?_) | (with_reducible refine Gr.keep (Gr.drew (Gr.refl _)) ?_)))
    have sB : B.heap.size = w.heap.size + 4 + z1.objs.size := by rw [← hB]; first | (simp; done) | (simp; omega)
    have EB := Lib.hid hB
    clear hB
    have HGB := Lib.hid gB
    go_cut [9] (fun s8 wr => SymBox w B Y s8 wr)
    case first =>
      go_region_held3 (fun w' => Gr B w') (first | assumption | exact Gr.drew (Gr.refl _) | (repeat (first | assumption | exact Gr.refl _ | apply Gr.ext | apply Gr.alloc | apply Gr.drew)))
        (first | (go_at_call 92; refine (implSymOf_any (g0, g1) t0 ix _ (Rd.gr HG.out (gB.trans (by first | assumption | exact (by repeat (first | exact Gr.refl _ | apply Gr.ext | apply Gr.alloc | apply Gr.drew))))) (Rd.gr HT.out (gB.trans (by first | assumption | exact (by repeat (first | exact Gr.refl _ | apply Gr.ext | apply Gr.alloc | apply Gr.drew)))))).mono ?_; rintro e w' ⟨rfl, x2, rfl⟩) | (go_at_call 91; refine (implFindSymbol_any (g0, g1) (symAt (g0, g1) t0 ix) _ (Rd.gr HG.out (gB.trans (by first | assumption | exact (by repeat (first | exact Gr.refl _ | apply Gr.ext | apply Gr.alloc | apply Gr.drew)))))).mono ?_; rintro e w' ⟨es, fq, rfl, hr, hsb, x3, rfl⟩; obtain ⟨yr, hyr⟩ : ∃ y, y = (lookS g0 (symAt (g0, g1) t0 ix)).getD zeroS := ⟨_, rfl⟩; have hr1r := hr; change Rd.rd fq _ es.toList ((lookS g0 (symAt (g0, g1) t0 ix)).getD zeroS) at hr1r; rw [← hyr] at hr1r; have HYr := Lib.hid hyr; have HRr := Lib.hid hr1r; obtain ⟨r0, r1⟩ := yr; obtain ⟨vr1, fr1, rfl, hfqr, hr0, hr1⟩ := rdSymbol_inv r0 r1 hr1r; have FQr := Lib.hid hfqr; clear hfqr; obtain ⟨ar1, kr1, rfl, or11, or12, or13⟩ := hr1.open; clear hr hr1r hyr; obtain ⟨bb, hbb⟩ : ∃ b : Bool, b = (lookS g0 (symAt (g0, g1) t0 ix)).isSome := ⟨_, rfl⟩; rw [← hbb]; have Hbb := Lib.hid hbb; clear hbb; have HSB := Lib.hid hsb; clear hsb))
      all_goals
        go_wp2_with fail
        go_meet
        have hY : Y = (r0, r1) := HYY.out.trans HYr.out.symm
        subst hY
        have hnb : ∀ c ∈ fr1, c < w.heap.size ∨ _ ≤ c := fun c hc => (HSB.out c (by rw [FQr.out]; simpa using hc)).imp (Rd.lt HG.out c) id
        have hw5 := HGB.out.size
        refine ⟨_, .slice ar1 r1.length kr1, fr1, rfl, (by repeat (first | exact Gr.refl _ | apply Gr.ext | apply Gr.alloc | apply Gr.drew)), ?_, ?_, ?_, hr0, by first | omega | (simp; done) | (simp; omega), fun c hc => (hnb c hc).imp id (fun h => by simp at h; omega)⟩
        · repeat (first | ((with_reducible refine box_cell ?_ ?_) <;> first | omega | (simp; done) | (simp; omega) | rfl) | (with_reducible refine Gr.keep (Gr.alloc (Gr.refl _) _) ?_) | (with_reducible refine Gr.keep (Gr.ext (Gr.refl _) _) ?_) | (with_reducible refine Gr.keep (Gr.drew (Gr.refl _)) ?_))
        · repeat (first | ((with_reducible refine box_cell ?_ ?_) <;> first | omega | (simp; done) | (simp; omega) | rfl) | (with_reducible refine Gr.keep (Gr.alloc (Gr.refl _) _) ?_) | (with_reducible refine Gr.keep (Gr.ext (Gr.refl _) _) ?_) | (with_reducible refine Gr.keep (Gr.drew (Gr.refl _)) ?_))
        · first
            | (refine hr1.gr ?_; (repeat (first | exact Gr.refl _ | apply Gr.ext | apply Gr.alloc | apply Gr.drew)); done)
            | ((with_reducible refine hr1.mono (sameOn_box ?_)); exact fun c hc e => by subst e; have := hnb _ hc; simp at this; omega)
            | ((with_reducible refine hr1.mono (sameOn_box2 ?_)); exact fun c hc e => by subst e; have := hnb _ hc; simp at this; omega)
            | ((with_reducible refine hr1.mono (sameOn_box3 ?_)); exact fun c hc e => by subst e; have := hnb _ hc; simp at this; omega)
    case rest =>
      obtain ⟨b8, v8, fr, rfl, g56, d0, d1, sl, hsz, -, -⟩ := hcut
      rename World => W6
      obtain ⟨ay, ky, rfl, oy1, oy2, oy3⟩ := sl.open
      have z0 := blk d0
      have HRD := Lib.hid (rdSymbol_mk Y.1 Y.2 hsz sl)
      have HG56 := Lib.hid g56
      have e3 := g56.keep (bB3 _ (Gr.refl _))
      have e4 := g56.keep (bB4 _ (Gr.refl _))
      have e5 := g56.keep (bB5 _ (Gr.refl _))
      have e6 := g56.keep (bB6 _ (Gr.refl _))
      have ze := blk e3
      clear sl g56
      go_wp2_with fail
      refine (implFindAttr_any Y x1 _ (Rd.gr HRD.out (by repeat (first | exact Gr.refl _ | apply Gr.ext | apply Gr.alloc | apply Gr.drew)))).mono ?_
      rintro e w' ⟨es, fq, rfl, hr, -, x3, rfl⟩
      obtain ⟨yr, hyr⟩ : ∃ y, y = (lookA Y.2 x1).getD zeroA := ⟨_, rfl⟩; have hr1r := hr; change Rd.rd fq _ es.toList ((lookA Y.2 x1).getD zeroA) at hr1r; rw [← hyr] at hr1r; have HYr := Lib.hid hyr; have HRr := Lib.hid hr1r; obtain ⟨r0, r1, r2, r3⟩ := yr; obtain ⟨rfl, hfqr, hr0, hr1, hr2⟩ := rdAttribute_inv r0 r1 r2 r3 hr1r; have FQr := Lib.hid hfqr; clear hfqr; clear hr hr1r hyr; obtain ⟨bb, hbb⟩ : ∃ b : Bool, b = (lookA Y.2 x1).isSome := ⟨_, rfl⟩; rw [← hbb]; have Hbb := Lib.hid hbb; clear hbb
      obtain ⟨y, rfl⟩ := HG56.out
      obtain rfl := EB.out
      go_wp2_with fail
      exact bodyPost_ret (v := .tuple #[.agg #[.string r0, .int .i64 r1, .int .i64 r2, .bool r3], .bool bb])
        (by simp [results, Tryz.results42, go_sem]) rfl ⟨_, [], by rw [HY.out, ← Hbb.out], by rw [HY.out, ← HYr.out]; exact rdAttribute_mk r0 r1 r2 r3 hr0 hr1 hr2, by simp, (by repeat (first | exact Gr.refl _ | apply Gr.ext | apply Gr.alloc | apply Gr.drew))⟩

set_option maxRecDepth 100000 in
set_option maxHeartbeats 16000000 in
theorem specAttr_any {fg : List Nat} {cg : Array Value} (g : (GGrammar d)) {ft : List Nat} {ct : Array Value} (t : GTree) {fx : List Nat} {cx : Array Value} (x : GInstance) (w : World) (hg : Rd.rd fg w cg.toList g) (ht : Rd.rd ft w ct.toList t) (hx : Rd.rd fx w cx.toList x) (hl : wtGrammar g ≤ 1048576) :
    Calls Tryz.prog 35 #[.agg cg, .agg ct, .agg cx] w (Found [] w (attrOf g t x) zeroA) := by
  have HWT := Lib.hid hl
  have HG := Lib.hid hg
  obtain ⟨g0, g1⟩ := g
  obtain ⟨vg0, fg0, vg1, fg1, rfl, hfpg, hg0, hg1⟩ := rdGrammar_inv g0 g1 hg
  have FPg := Lib.hid hfpg
  clear hfpg
  obtain ⟨ag0, kg0, rfl, og01, og02, og03⟩ := hg0.open
  obtain ⟨ag1, kg1, rfl, og11, og12, og13⟩ := hg1.open
  clear hg
  have HT := Lib.hid ht
  obtain ⟨t0, rfl⟩ : ∃ y, y = t := ⟨t, rfl⟩
  obtain ⟨vt0, ft0, rfl, hfpt, ht0⟩ := rdTree_inv t0 ht
  have FPt := Lib.hid hfpt
  clear hfpt
  obtain ⟨at0, kt0, rfl, ot01, ot02, ot03⟩ := ht0.open
  clear ht
  have HX := Lib.hid hx
  obtain ⟨x0, x1⟩ := x
  obtain ⟨rfl, hfpx, hx0, hx1⟩ := rdInstance_inv x0 x1 hx
  have FPx := Lib.hid hfpx
  clear hfpx
  clear hx
  have hni := nodeIx_le t0 x0
  by_cases hneg : nodeIx t0 x0 < 0
  · have hno : attrOf (g0, g1) t0 (x0, x1) = none := attrOf_none hneg
    have HNO := Lib.hid hno
    obtain ⟨ix, hix⟩ : ∃ z, z = nodeIx t0 x0 := ⟨_, rfl⟩
    have HIX := Lib.hid hix
    rw [← hix] at hneg hni
    clear hno hix
    go_enter Tryz.func35, Tryz.ntmps35
    go_wp2_with fail
    refine (specNodeIx_any t0 x0 _ (Rd.gr HT.out (by repeat (first | exact Gr.refl _ | apply Gr.ext | apply Gr.alloc | apply Gr.drew)))).mono ?_
    rintro e w' ⟨rfl, z1, rfl⟩
    rw [← HIX.out]
    go_wp2_with fail
    exact bodyPost_ret (v := .tuple #[.agg #[.string ⟨#[]⟩, .int .i64 0, .int .i64 0, .bool false], .bool false])
      (by simp [results, Tryz.results35, go_sem]) rfl ⟨_, _, by rw [HNO.out]; rfl, by rw [HNO.out]; exact zeroA_rd _, by simp, (by repeat (first | exact Gr.refl _ | apply Gr.ext | apply Gr.alloc | apply Gr.drew))⟩
  · have hyes := attrOf_some (g := (g0, g1)) (t := t0) (x := (x0, x1)) hneg
    obtain ⟨ix, hix⟩ : ∃ z, z = nodeIx t0 x0 := ⟨_, rfl⟩
    obtain ⟨Y, hY⟩ : ∃ Y, Y = (lookS g0 (symAt (g0, g1) t0 (nodeIx t0 x0))).getD zeroS := ⟨_, rfl⟩
    have HIX := Lib.hid hix
    simp only at hyes
    rw [← hY] at hyes
    rw [← hix] at hneg hni hY
    have HY := Lib.hid hyes
    have HYY := Lib.hid hY
    clear hyes hix hY
    go_enter Tryz.func35, Tryz.ntmps35
    go_wp2_with fail
    refine (specNodeIx_any t0 x0 _ (Rd.gr HT.out (by repeat (first | exact Gr.refl _ | apply Gr.ext | apply Gr.alloc | apply Gr.drew)))).mono ?_
    rintro e w' ⟨rfl, z1, rfl⟩
    rw [← HIX.out]
    go_wp2_with fail
    generalize hB : ((((w.alloc (.cells #[.slice ag0 g0.length kg0, .slice ag1 g1.length kg1] 43)).alloc (.cells #[.slice at0 t0.length kt0] 47)).alloc (.cells #[.int .i64 x0, .string x1] 34)).alloc (.cells #[.string ⟨#[]⟩, .int .i64 0, .int .i64 0, .bool false] 79)).ext z1 = B
    have gB : Gr w B := by rw [← hB]; exact (by repeat (first | exact Gr.refl _ | apply Gr.ext | apply Gr.alloc | apply Gr.drew))
    have bB0 : ∀ w' : World, Gr B w' → w'.cell? ⟨w.heap.size, 0, none⟩ = some (.slice ag0 g0.length kg0) := fun w' hg => hg.keep (by rw [← hB]; repeat (first | ((with_reducible refine box_cell ?_ ?_) <;> first | omega | (simp; done) | (simp; omega) | rfl) | (with_reducible refine Gr.keep (Gr.alloc (Gr.refl _) _) ?_) | (with_reducible refine Gr.keep (Gr.ext (Gr.refl _) _) ?_) | (with_reducible refine Gr.keep (Gr.drew (Gr.refl _)) ?_)))
    have bB1 : ∀ w' : World, Gr B w' → w'.cell? ⟨w.heap.size, 1, none⟩ = some (.slice ag1 g1.length kg1) := fun w' hg => hg.keep (by rw [← hB]; repeat (first | ((with_reducible refine box_cell ?_ ?_) <;> first | omega | (simp; done) | (simp; omega) | rfl) | (with_reducible refine Gr.keep (Gr.alloc (Gr.refl _) _) ?_) | (with_reducible refine Gr.keep (Gr.ext (Gr.refl _) _) ?_) | (with_reducible refine Gr.keep (Gr.drew (Gr.refl _)) ?_)))
    have bB2 : ∀ w' : World, Gr B w' → w'.cell? ⟨w.heap.size + 1, 0, none⟩ = some (.slice at0 t0.length kt0) := fun w' hg => hg.keep (by rw [← hB]; repeat (first | ((with_reducible refine box_cell ?_ ?_) <;> first | omega | (simp; done) | (simp; omega) | rfl) | (with_reducible refine Gr.keep (Gr.alloc (Gr.refl _) _) ?_) | (with_reducible refine Gr.keep (Gr.ext (Gr.refl _) _) ?_) | (with_reducible refine Gr.keep (Gr.drew (Gr.refl _)) ?_)))
    have bB3 : ∀ w' : World, Gr B w' → w'.cell? ⟨w.heap.size + 1 + 1, 0, none⟩ = some (.int .i64 x0) := fun w' hg => hg.keep (by rw [← hB]; repeat (first | ((with_reducible refine box_cell ?_ ?_) <;> first | omega | (simp; done) | (simp; omega) | rfl) | (with_reducible refine Gr.keep (Gr.alloc (Gr.refl _) _) ?_) | (with_reducible refine Gr.keep (Gr.ext (Gr.refl _) _) ?_) | (with_reducible refine Gr.keep (Gr.drew (Gr.refl _)) ?_)))
    have bB4 : ∀ w' : World, Gr B w' → w'.cell? ⟨w.heap.size + 1 + 1, 1, none⟩ = some (.string x1) := fun w' hg => hg.keep (by rw [← hB]; repeat (first | ((with_reducible refine box_cell ?_ ?_) <;> first | omega | (simp; done) | (simp; omega) | rfl) | (with_reducible refine Gr.keep (Gr.alloc (Gr.refl _) _) ?_) | (with_reducible refine Gr.keep (Gr.ext (Gr.refl _) _) ?_) | (with_reducible refine Gr.keep (Gr.drew (Gr.refl _)) ?_)))
    have bB5 : ∀ w' : World, Gr B w' → w'.cell? ⟨w.heap.size + 2, 0, none⟩ = some (.int .i64 x0) := fun w' hg => hg.keep (by rw [← hB]; repeat (first | ((with_reducible refine box_cell ?_ ?_) <;> first | omega | (simp; done) | (simp; omega) | rfl) | (with_reducible refine Gr.keep (Gr.alloc (Gr.refl _) _) ?_) | (with_reducible refine Gr.keep (Gr.ext (Gr.refl _) _) ?_) | (with_reducible refine Gr.keep (Gr.drew (Gr.refl _)) ?_)))
    have bB6 : ∀ w' : World, Gr B w' → w'.cell? ⟨w.heap.size + 2, 1, none⟩ = some (.string x1) := fun w' hg => hg.keep (by rw [← hB]; repeat (first | ((with_reducible refine box_cell ?_ ?_) <;> first | omega | (simp; done) | (simp; omega) | rfl) | (with_reducible refine Gr.keep (Gr.alloc (Gr.refl _) _) ?_) | (with_reducible refine Gr.keep (Gr.ext (Gr.refl _) _) ?_) | (with_reducible refine Gr.keep (Gr.drew (Gr.refl _)) ?_)))
    have sB : B.heap.size = w.heap.size + 4 + z1.objs.size := by rw [← hB]; first | (simp; done) | (simp; omega)
    have EB := Lib.hid hB
    clear hB
    have HGB := Lib.hid gB
    go_cut [8] (fun s8 wr => SymBox w B Y s8 wr)
    case first =>
      go_region_held3 (fun w' => Gr B w') (first | assumption | exact Gr.drew (Gr.refl _) | (repeat (first | assumption | exact Gr.refl _ | apply Gr.ext | apply Gr.alloc | apply Gr.drew)))
        (first | (go_at_call 64; refine (specSymOf_any (g0, g1) t0 ix _ (Rd.gr HG.out (gB.trans (by first | assumption | exact (by repeat (first | exact Gr.refl _ | apply Gr.ext | apply Gr.alloc | apply Gr.drew))))) (Rd.gr HT.out (gB.trans (by first | assumption | exact (by repeat (first | exact Gr.refl _ | apply Gr.ext | apply Gr.alloc | apply Gr.drew))))) HWT.out).mono ?_; rintro e w' ⟨rfl, x2, rfl⟩) | (go_at_call 82; refine (specFindSymbol_any (g0, g1) (symAt (g0, g1) t0 ix) _ (Rd.gr HG.out (gB.trans (by first | assumption | exact (by repeat (first | exact Gr.refl _ | apply Gr.ext | apply Gr.alloc | apply Gr.drew))))) HWT.out).mono ?_; rintro e w' ⟨es, fq, rfl, hr, hsb, x3, rfl⟩; obtain ⟨yr, hyr⟩ : ∃ y, y = (lookS g0 (symAt (g0, g1) t0 ix)).getD zeroS := ⟨_, rfl⟩; have hr1r := hr; change Rd.rd fq _ es.toList ((lookS g0 (symAt (g0, g1) t0 ix)).getD zeroS) at hr1r; rw [← hyr] at hr1r; have HYr := Lib.hid hyr; have HRr := Lib.hid hr1r; obtain ⟨r0, r1⟩ := yr; obtain ⟨vr1, fr1, rfl, hfqr, hr0, hr1⟩ := rdSymbol_inv r0 r1 hr1r; have FQr := Lib.hid hfqr; clear hfqr; obtain ⟨ar1, kr1, rfl, or11, or12, or13⟩ := hr1.open; clear hr hr1r hyr; obtain ⟨bb, hbb⟩ : ∃ b : Bool, b = (lookS g0 (symAt (g0, g1) t0 ix)).isSome := ⟨_, rfl⟩; rw [← hbb]; have Hbb := Lib.hid hbb; clear hbb; have HSB := Lib.hid hsb; clear hsb) | (go_at_call 65; refine (specNodeIx_any t0 x0 _ (Rd.gr HT.out (gB.trans (by first | assumption | exact (by repeat (first | exact Gr.refl _ | apply Gr.ext | apply Gr.alloc | apply Gr.drew)))))).mono ?_; rintro e w' ⟨rfl, x4, rfl⟩; rw [← HIX.out]))
      all_goals
        go_wp2_with fail
        go_meet
        have hY : Y = (r0, r1) := HYY.out.trans HYr.out.symm
        subst hY
        have hnb : ∀ c ∈ fr1, c < w.heap.size ∨ _ ≤ c := fun c hc => (HSB.out c (by rw [FQr.out]; simpa using hc)).imp (Rd.lt HG.out c) id
        have hw5 := HGB.out.size
        refine ⟨_, .slice ar1 r1.length kr1, fr1, rfl, (by repeat (first | exact Gr.refl _ | apply Gr.ext | apply Gr.alloc | apply Gr.drew)), ?_, ?_, ?_, hr0, by first | omega | (simp; done) | (simp; omega), fun c hc => (hnb c hc).imp id (fun h => by simp at h; omega)⟩
        · repeat (first | ((with_reducible refine box_cell ?_ ?_) <;> first | omega | (simp; done) | (simp; omega) | rfl) | (with_reducible refine Gr.keep (Gr.alloc (Gr.refl _) _) ?_) | (with_reducible refine Gr.keep (Gr.ext (Gr.refl _) _) ?_) | (with_reducible refine Gr.keep (Gr.drew (Gr.refl _)) ?_))
        · repeat (first | ((with_reducible refine box_cell ?_ ?_) <;> first | omega | (simp; done) | (simp; omega) | rfl) | (with_reducible refine Gr.keep (Gr.alloc (Gr.refl _) _) ?_) | (with_reducible refine Gr.keep (Gr.ext (Gr.refl _) _) ?_) | (with_reducible refine Gr.keep (Gr.drew (Gr.refl _)) ?_))
        · first
            | (refine hr1.gr ?_; (repeat (first | exact Gr.refl _ | apply Gr.ext | apply Gr.alloc | apply Gr.drew)); done)
            | ((with_reducible refine hr1.mono (sameOn_box ?_)); exact fun c hc e => by subst e; have := hnb _ hc; simp at this; omega)
            | ((with_reducible refine hr1.mono (sameOn_box2 ?_)); exact fun c hc e => by subst e; have := hnb _ hc; simp at this; omega)
            | ((with_reducible refine hr1.mono (sameOn_box3 ?_)); exact fun c hc e => by subst e; have := hnb _ hc; simp at this; omega)
    case rest =>
      obtain ⟨b8, v8, fr, rfl, g56, d0, d1, sl, hsz, -, -⟩ := hcut
      rename World => W6
      obtain ⟨ay, ky, rfl, oy1, oy2, oy3⟩ := sl.open
      have z0 := blk d0
      have HRD := Lib.hid (rdSymbol_mk Y.1 Y.2 hsz sl)
      have HG56 := Lib.hid g56
      have e3 := g56.keep (bB3 _ (Gr.refl _))
      have e4 := g56.keep (bB4 _ (Gr.refl _))
      have e5 := g56.keep (bB5 _ (Gr.refl _))
      have e6 := g56.keep (bB6 _ (Gr.refl _))
      have ze := blk e3
      clear sl g56
      go_wp2_with fail
      refine (specFindAttr_any Y x1 _ (Rd.gr HRD.out (by repeat (first | exact Gr.refl _ | apply Gr.ext | apply Gr.alloc | apply Gr.drew)))).mono ?_
      rintro e w' ⟨es, fq, rfl, hr, -, x3, rfl⟩
      obtain ⟨yr, hyr⟩ : ∃ y, y = (lookA Y.2 x1).getD zeroA := ⟨_, rfl⟩; have hr1r := hr; change Rd.rd fq _ es.toList ((lookA Y.2 x1).getD zeroA) at hr1r; rw [← hyr] at hr1r; have HYr := Lib.hid hyr; have HRr := Lib.hid hr1r; obtain ⟨r0, r1, r2, r3⟩ := yr; obtain ⟨rfl, hfqr, hr0, hr1, hr2⟩ := rdAttribute_inv r0 r1 r2 r3 hr1r; have FQr := Lib.hid hfqr; clear hfqr; clear hr hr1r hyr; obtain ⟨bb, hbb⟩ : ∃ b : Bool, b = (lookA Y.2 x1).isSome := ⟨_, rfl⟩; rw [← hbb]; have Hbb := Lib.hid hbb; clear hbb
      obtain ⟨y, rfl⟩ := HG56.out
      obtain rfl := EB.out
      go_wp2_with fail
      exact bodyPost_ret (v := .tuple #[.agg #[.string r0, .int .i64 r1, .int .i64 r2, .bool r3], .bool bb])
        (by simp [results, Tryz.results35, go_sem]) rfl ⟨_, [], by rw [HY.out, ← Hbb.out], by rw [HY.out, ← HYr.out]; exact rdAttribute_mk r0 r1 r2 r3 hr0 hr1 hr2, by simp, (by repeat (first | exact Gr.refl _ | apply Gr.ext | apply Gr.alloc | apply Gr.drew))⟩
end Go.Proofs.YtbfmeiooeaaibaaGreat
