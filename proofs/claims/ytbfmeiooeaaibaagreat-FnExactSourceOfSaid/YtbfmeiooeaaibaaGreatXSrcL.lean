/- How much a source weighs. The walk of the statement on SourceOf. Made by mk_lawg.py. No condition. -/
import Derived.Test.YtbfmeiooeaaibaaGreatXSrcP
import Derived.Test.YtbfmeiooeaaibaaGreatSrcI
import Derived.Test.YtbfmeiooeaaibaaGreatSrcS
import Derived.Test.YtbfmeiooeaaibaaGreatMarkGram
import Derived.Test.YtbfmeiooeaaibaaGreatMarkTree
import Derived.Test.YtbfmeiooeaaibaaGreatXMarkE
import Derived.Test.YtbfmeiooeaaibaaGreatIntsC
import Derived.Deep.RegionHeld3
import Derived.Deep.DeepCutAuto
namespace Go.Proofs.YtbfmeiooeaaibaaGreat
open Go.RowKit
variable {d : Nat}

theorem srcOf_wt {g : GGrammar d} {t : GTree} {x : GInstance} (h : wtTree t ≤ 1048576) (hx : wtInstance x ≤ 1048576) : wtEntry (srcOf g t x) ≤ 8000000 := by
  have hl : t.length ≤ 1048576 := Nat.le_trans (wtL_len wtNode t) h
  have e : ∀ (o l : Int) (r : ByteArray) (is ss : List Int), wtEntry (x, 0, o, l, r, is, ss, []) = wtInstance x + r.size + is.length + ss.length + 0 := fun o l r is ss => rfl
  unfold srcOf
  split
  · rw [e]
    have h1 := shape_len g t
    have h2 : (shapeOf g t).length ≤ t.length * 3 := h1
    have h3 : ByteArray.empty.size = 0 := rfl
    simp only [List.length_nil]
    omega
  · unfold srcD
    have h3 : ByteArray.empty.size = 0 := rfl
    have en : wtEntry (nilE x) = wtInstance x + ByteArray.empty.size + ([] : List Int).length + ([] : List Int).length + 0 := rfl
    split
    · rw [en]; simp only [List.length_nil]; omega
    · split
      · rw [en]; simp only [List.length_nil]; omega
      · rename_i n hn
        rw [e]
        have h4 := nids_len h ‹GDefinition d›.1
        have h5 : n.2.2.2.2.1.size ≤ 1048576 := by
          have hm : ∃ k, ∃ hk : k < t.length, t[k] = n := by
            unfold nth at hn
            split at hn
            · obtain ⟨hk, e⟩ := List.getElem?_eq_some_iff.1 hn
              exact ⟨_, hk, e⟩
            · cases hn
          obtain ⟨k, hk, rfl⟩ := hm
          have h6 : wtNode t[k] ≤ wtL wtNode t := wtL_at wtNode t hk
          have h7 : wtNode t[k] = t[k].2.2.2.2.1.size + t[k].2.2.2.2.2.length := rfl
          have h8 : wtL wtNode t ≤ 1048576 := h
          omega
        simp only [List.length_nil]
        omega
end Go.Proofs.YtbfmeiooeaaibaaGreat

namespace Go.Proofs.YtbfmeiooeaaibaaGreat
open Go.RowKit
variable {d : Nat}

theorem less_ok {L : Int} {n : Nat} (h : ¬ less L n < 0) : (n : Int) ≤ L := by
  unfold less at h
  split at h <;> omega

/-- What a statement leaves that lays a made value into a new box. -/
def BoxOne {α : Type} [Rd α] (W : World) (y : α) (s : Value) (wx : World) : Prop :=
  ∃ (g : Nat) (es : Array Value) (fq : List Nat), s = .pointer (some ⟨g, 0, none⟩) ∧ Gr W wx ∧ W.heap.size ≤ g ∧ CellsAt wx g 0 es.toList ∧ Rd.rd fq wx es.toList y ∧ fq.Nodup ∧ ∀ c ∈ fq, W.heap.size ≤ c ∧ c ≠ g

set_option maxRecDepth 10000 in
set_option maxHeartbeats 16000000 in
theorem lawSrc_any (fpg fpt fpx : List Nat) (cg : Array Value) (ct : Array Value) (cx : Array Value) (g : (GGrammar d)) (t : GTree) (x : GInstance) (w : World) (hg : Rd.rd fpg w cg.toList g) (ht : Rd.rd fpt w ct.toList t) (hx : Rd.rd fpx w cx.toList x) :
    Calls Tryz.prog 3 #[.agg cg, .agg ct, .agg cx] w fun e w' => e = .returned (.bool true) ∧ Gr w w' := by
  have HG := Lib.hid hg
  have HT := Lib.hid ht
  have HX := Lib.hid hx
  obtain ⟨gaq0, glq0, gcq0, gaq1, glq1, gcq1, rfl⟩ := rdGrammar_shape hg
  clear hg
  obtain ⟨taq0, tlq0, tcq0, rfl⟩ := rdTree_shape ht
  clear ht
  obtain ⟨xaq0, xaq1, rfl⟩ := rdInstance_shape hx
  clear hx
  by_cases hs0 : less 1048576 (wtGrammar g) < 0
  · skip
    have HS0 := Lib.hid hs0
    clear hs0
    go_enter Tryz.func3, Tryz.ntmps3
    go_wp2_with fail
    refine (szGrammar_any _ _ g _ _ (Rd.gr HG.out (by repeat (first | exact Gr.refl _ | apply Gr.ext | apply Gr.alloc | apply Gr.drew))) (by omega) (by omega)).mono ?_
    rintro e w' ⟨rfl, z0, rfl⟩
    have hs0 := HS0.out
    go_wp2_with fail
    go_ret
    exact ⟨rfl, (by repeat (first | exact Gr.refl _ | apply Gr.ext | apply Gr.alloc | apply Gr.drew))⟩
  · skip
    have wtg : wtGrammar g ≤ 1048576 := by have := less_ok hs0; omega
    have bb0 := less_le 1048576 (wtGrammar g) (by omega)
    by_cases hs1 : less (less 1048576 (wtGrammar g)) (wtTree t) < 0
    · skip
      have HS0 := Lib.hid hs0
      have HS1 := Lib.hid hs1
      clear hs0 hs1
      go_enter Tryz.func3, Tryz.ntmps3
      go_wp2_with fail
      refine (szGrammar_any _ _ g _ _ (Rd.gr HG.out (by repeat (first | exact Gr.refl _ | apply Gr.ext | apply Gr.alloc | apply Gr.drew))) (by omega) (by omega)).mono ?_
      rintro e w' ⟨rfl, z0, rfl⟩
      have hs0 := HS0.out
      go_wp2_with fail
      refine (szTree_any _ _ t _ _ (Rd.gr HT.out (by repeat (first | exact Gr.refl _ | apply Gr.ext | apply Gr.alloc | apply Gr.drew))) (by omega) (by omega)).mono ?_
      rintro e w' ⟨rfl, z1, rfl⟩
      have hs1 := HS1.out
      go_wp2_with fail
      go_ret
      exact ⟨rfl, (by repeat (first | exact Gr.refl _ | apply Gr.ext | apply Gr.alloc | apply Gr.drew))⟩
    · skip
      have wtt : wtTree t ≤ 1048576 := by have := less_ok hs1; omega
      have bb1 := less_le (less 1048576 (wtGrammar g)) (wtTree t) (by omega)
      by_cases hs2 : less (less (less 1048576 (wtGrammar g)) (wtTree t)) (wtInstance x) < 0
      · skip
        have HS0 := Lib.hid hs0
        have HS1 := Lib.hid hs1
        have HS2 := Lib.hid hs2
        clear hs0 hs1 hs2
        go_enter Tryz.func3, Tryz.ntmps3
        go_wp2_with fail
        refine (szGrammar_any _ _ g _ _ (Rd.gr HG.out (by repeat (first | exact Gr.refl _ | apply Gr.ext | apply Gr.alloc | apply Gr.drew))) (by omega) (by omega)).mono ?_
        rintro e w' ⟨rfl, z0, rfl⟩
        have hs0 := HS0.out
        go_wp2_with fail
        refine (szTree_any _ _ t _ _ (Rd.gr HT.out (by repeat (first | exact Gr.refl _ | apply Gr.ext | apply Gr.alloc | apply Gr.drew))) (by omega) (by omega)).mono ?_
        rintro e w' ⟨rfl, z1, rfl⟩
        have hs1 := HS1.out
        go_wp2_with fail
        refine (szInstance_any _ _ x _ _ (Rd.gr HX.out (by repeat (first | exact Gr.refl _ | apply Gr.ext | apply Gr.alloc | apply Gr.drew))) (by omega) (by omega)).mono ?_
        rintro e w' ⟨rfl, z2, rfl⟩
        have hs2 := HS2.out
        go_wp2_with fail
        go_ret
        exact ⟨rfl, (by repeat (first | exact Gr.refl _ | apply Gr.ext | apply Gr.alloc | apply Gr.drew))⟩
      · skip
        have wtx : wtInstance x ≤ 1048576 := by have := less_ok hs2; omega
        have bb2 := less_le (less (less 1048576 (wtGrammar g)) (wtTree t)) (wtInstance x) (by omega)
        have HS0 := Lib.hid hs0
        have HS1 := Lib.hid hs1
        have HS2 := Lib.hid hs2
        clear hs0 hs1 hs2
        obtain ⟨yv, hyv⟩ : ∃ y, y = srcOf g t x := ⟨_, rfl⟩
        have hwy : wtEntry yv ≤ 8000000 := by rw [hyv]; exact srcOf_wt wtt wtx
        have HYV := Lib.hid hyv
        clear hyv
        go_enter Tryz.func3, Tryz.ntmps3
        go_wp2_with fail
        refine (szGrammar_any _ _ g _ _ (Rd.gr HG.out (by repeat (first | exact Gr.refl _ | apply Gr.ext | apply Gr.alloc | apply Gr.drew))) (by omega) (by omega)).mono ?_
        rintro e Y1 ⟨rfl, gY1⟩
        have hs0 := HS0.out
        have GY1 : Gr w Y1 := ((by repeat (first | exact Gr.refl _ | apply Gr.ext | apply Gr.alloc | apply Gr.drew)) : Gr w (((w.alloc (.cells #[.slice gaq0 glq0 gcq0, .slice gaq1 glq1 gcq1] 25)).alloc (.cells #[.slice taq0 tlq0 tcq0] 28)).alloc (.cells #[.int .i64 xaq0, .string xaq1] 30))).trans gY1
        have GWY1 : Gr w Y1 := GY1
        have ZY1 : w.heap.size ≤ Y1.heap.size := GY1.size
        have cY1_ag_0 : Y1.cell? ⟨w.heap.size, 0, none⟩ = some (.slice gaq0 glq0 gcq0) := (((by repeat (first | exact Gr.refl _ | apply Gr.ext | apply Gr.alloc | apply Gr.drew)) : Gr (w.alloc (.cells #[.slice gaq0 glq0 gcq0, .slice gaq1 glq1 gcq1] 25)) (((w.alloc (.cells #[.slice gaq0 glq0 gcq0, .slice gaq1 glq1 gcq1] 25)).alloc (.cells #[.slice taq0 tlq0 tcq0] 28)).alloc (.cells #[.int .i64 xaq0, .string xaq1] 30))).trans gY1).keep (box_cell (A := _) (by simp) rfl : ((w.alloc (.cells #[.slice gaq0 glq0 gcq0, .slice gaq1 glq1 gcq1] 25))).cell? ⟨w.heap.size, 0, none⟩ = some (.slice gaq0 glq0 gcq0))
        have cY1_ag_1 : Y1.cell? ⟨w.heap.size, 1, none⟩ = some (.slice gaq1 glq1 gcq1) := (((by repeat (first | exact Gr.refl _ | apply Gr.ext | apply Gr.alloc | apply Gr.drew)) : Gr (w.alloc (.cells #[.slice gaq0 glq0 gcq0, .slice gaq1 glq1 gcq1] 25)) (((w.alloc (.cells #[.slice gaq0 glq0 gcq0, .slice gaq1 glq1 gcq1] 25)).alloc (.cells #[.slice taq0 tlq0 tcq0] 28)).alloc (.cells #[.int .i64 xaq0, .string xaq1] 30))).trans gY1).keep (box_cell (A := _) (by simp) rfl : ((w.alloc (.cells #[.slice gaq0 glq0 gcq0, .slice gaq1 glq1 gcq1] 25))).cell? ⟨w.heap.size, 1, none⟩ = some (.slice gaq1 glq1 gcq1))
        have cY1_at_0 : Y1.cell? ⟨w.heap.size + 1, 0, none⟩ = some (.slice taq0 tlq0 tcq0) := (((by repeat (first | exact Gr.refl _ | apply Gr.ext | apply Gr.alloc | apply Gr.drew)) : Gr ((w.alloc (.cells #[.slice gaq0 glq0 gcq0, .slice gaq1 glq1 gcq1] 25)).alloc (.cells #[.slice taq0 tlq0 tcq0] 28)) (((w.alloc (.cells #[.slice gaq0 glq0 gcq0, .slice gaq1 glq1 gcq1] 25)).alloc (.cells #[.slice taq0 tlq0 tcq0] 28)).alloc (.cells #[.int .i64 xaq0, .string xaq1] 30))).trans gY1).keep (box_cell (A := _) (by simp) rfl : (((w.alloc (.cells #[.slice gaq0 glq0 gcq0, .slice gaq1 glq1 gcq1] 25)).alloc (.cells #[.slice taq0 tlq0 tcq0] 28))).cell? ⟨w.heap.size + 1, 0, none⟩ = some (.slice taq0 tlq0 tcq0))
        have cY1_ax_0 : Y1.cell? ⟨w.heap.size + 1 + 1, 0, none⟩ = some (.int .i64 xaq0) := (((by repeat (first | exact Gr.refl _ | apply Gr.ext | apply Gr.alloc | apply Gr.drew)) : Gr (((w.alloc (.cells #[.slice gaq0 glq0 gcq0, .slice gaq1 glq1 gcq1] 25)).alloc (.cells #[.slice taq0 tlq0 tcq0] 28)).alloc (.cells #[.int .i64 xaq0, .string xaq1] 30)) (((w.alloc (.cells #[.slice gaq0 glq0 gcq0, .slice gaq1 glq1 gcq1] 25)).alloc (.cells #[.slice taq0 tlq0 tcq0] 28)).alloc (.cells #[.int .i64 xaq0, .string xaq1] 30))).trans gY1).keep (box_cell (A := _) (by simp) rfl : ((((w.alloc (.cells #[.slice gaq0 glq0 gcq0, .slice gaq1 glq1 gcq1] 25)).alloc (.cells #[.slice taq0 tlq0 tcq0] 28)).alloc (.cells #[.int .i64 xaq0, .string xaq1] 30))).cell? ⟨w.heap.size + 1 + 1, 0, none⟩ = some (.int .i64 xaq0))
        have cY1_ax_1 : Y1.cell? ⟨w.heap.size + 1 + 1, 1, none⟩ = some (.string xaq1) := (((by repeat (first | exact Gr.refl _ | apply Gr.ext | apply Gr.alloc | apply Gr.drew)) : Gr (((w.alloc (.cells #[.slice gaq0 glq0 gcq0, .slice gaq1 glq1 gcq1] 25)).alloc (.cells #[.slice taq0 tlq0 tcq0] 28)).alloc (.cells #[.int .i64 xaq0, .string xaq1] 30)) (((w.alloc (.cells #[.slice gaq0 glq0 gcq0, .slice gaq1 glq1 gcq1] 25)).alloc (.cells #[.slice taq0 tlq0 tcq0] 28)).alloc (.cells #[.int .i64 xaq0, .string xaq1] 30))).trans gY1).keep (box_cell (A := _) (by simp) rfl : ((((w.alloc (.cells #[.slice gaq0 glq0 gcq0, .slice gaq1 glq1 gcq1] 25)).alloc (.cells #[.slice taq0 tlq0 tcq0] 28)).alloc (.cells #[.int .i64 xaq0, .string xaq1] 30))).cell? ⟨w.heap.size + 1 + 1, 1, none⟩ = some (.string xaq1))
        have zY1_ag := blk cY1_ag_0
        have zY1_at := blk cY1_at_0
        have zY1_ax := blk cY1_ax_0
        go_wp2_with fail
        refine (szTree_any _ _ t _ _ (Rd.gr HT.out ((GWY1).trans (by repeat (first | exact Gr.refl _ | apply Gr.ext | apply Gr.alloc | apply Gr.drew)))) (by omega) (by omega)).mono ?_
        rintro e Y2 ⟨rfl, gY2⟩
        have hs1 := HS1.out
        have GY2 : Gr Y1 Y2 := ((by repeat (first | exact Gr.refl _ | apply Gr.ext | apply Gr.alloc | apply Gr.drew)) : Gr Y1 Y1).trans gY2
        have GWY2 : Gr w Y2 := GWY1.trans GY2
        have ZY2 : Y1.heap.size ≤ Y2.heap.size := GY2.size
        have cY2_ag_0 : Y2.cell? ⟨w.heap.size, 0, none⟩ = some (.slice gaq0 glq0 gcq0) := GY2.keep cY1_ag_0
        have cY2_ag_1 : Y2.cell? ⟨w.heap.size, 1, none⟩ = some (.slice gaq1 glq1 gcq1) := GY2.keep cY1_ag_1
        have cY2_at_0 : Y2.cell? ⟨w.heap.size + 1, 0, none⟩ = some (.slice taq0 tlq0 tcq0) := GY2.keep cY1_at_0
        have cY2_ax_0 : Y2.cell? ⟨w.heap.size + 1 + 1, 0, none⟩ = some (.int .i64 xaq0) := GY2.keep cY1_ax_0
        have cY2_ax_1 : Y2.cell? ⟨w.heap.size + 1 + 1, 1, none⟩ = some (.string xaq1) := GY2.keep cY1_ax_1
        have zY2_ag := blk cY2_ag_0
        have zY2_at := blk cY2_at_0
        have zY2_ax := blk cY2_ax_0
        clear cY1_ag_0 cY1_ag_1 cY1_at_0 cY1_ax_0 cY1_ax_1
        go_wp2_with fail
        refine (szInstance_any _ _ x _ _ (Rd.gr HX.out ((GWY2).trans (by repeat (first | exact Gr.refl _ | apply Gr.ext | apply Gr.alloc | apply Gr.drew)))) (by omega) (by omega)).mono ?_
        rintro e Y3 ⟨rfl, gY3⟩
        have hs2 := HS2.out
        have GY3 : Gr Y2 Y3 := ((by repeat (first | exact Gr.refl _ | apply Gr.ext | apply Gr.alloc | apply Gr.drew)) : Gr Y2 Y2).trans gY3
        have GWY3 : Gr w Y3 := GWY2.trans GY3
        have ZY3 : Y2.heap.size ≤ Y3.heap.size := GY3.size
        have cY3_ag_0 : Y3.cell? ⟨w.heap.size, 0, none⟩ = some (.slice gaq0 glq0 gcq0) := GY3.keep cY2_ag_0
        have cY3_ag_1 : Y3.cell? ⟨w.heap.size, 1, none⟩ = some (.slice gaq1 glq1 gcq1) := GY3.keep cY2_ag_1
        have cY3_at_0 : Y3.cell? ⟨w.heap.size + 1, 0, none⟩ = some (.slice taq0 tlq0 tcq0) := GY3.keep cY2_at_0
        have cY3_ax_0 : Y3.cell? ⟨w.heap.size + 1 + 1, 0, none⟩ = some (.int .i64 xaq0) := GY3.keep cY2_ax_0
        have cY3_ax_1 : Y3.cell? ⟨w.heap.size + 1 + 1, 1, none⟩ = some (.string xaq1) := GY3.keep cY2_ax_1
        have zY3_ag := blk cY3_ag_0
        have zY3_at := blk cY3_at_0
        have zY3_ax := blk cY3_ax_0
        clear cY2_ag_0 cY2_ag_1 cY2_at_0 cY2_ax_0 cY2_ax_1
        go_wp2_with fail
        clear hs0 hs1 hs2
        go_upto_region 11 with fail
        go_cut [8] (fun sp wx => BoxOne Y3 yv sp wx)
        case first =>
          have kcY3_ag_0 : ∀ w' : World, Gr Y3 w' → w'.cell? ⟨w.heap.size, 0, none⟩ = some (.slice gaq0 glq0 gcq0) := fun w' h => h.keep cY3_ag_0
          have kcY3_ag_1 : ∀ w' : World, Gr Y3 w' → w'.cell? ⟨w.heap.size, 1, none⟩ = some (.slice gaq1 glq1 gcq1) := fun w' h => h.keep cY3_ag_1
          have kcY3_at_0 : ∀ w' : World, Gr Y3 w' → w'.cell? ⟨w.heap.size + 1, 0, none⟩ = some (.slice taq0 tlq0 tcq0) := fun w' h => h.keep cY3_at_0
          have kcY3_ax_0 : ∀ w' : World, Gr Y3 w' → w'.cell? ⟨w.heap.size + 1 + 1, 0, none⟩ = some (.int .i64 xaq0) := fun w' h => h.keep cY3_ax_0
          have kcY3_ax_1 : ∀ w' : World, Gr Y3 w' → w'.cell? ⟨w.heap.size + 1 + 1, 1, none⟩ = some (.string xaq1) := fun w' h => h.keep cY3_ax_1
          go_region_held3 (fun w' => Gr Y3 w') (first | assumption | exact Gr.drew (Gr.refl _) | (repeat (first | assumption | exact Gr.refl _ | apply Gr.ext | apply Gr.alloc | apply Gr.drew)))
            (first
              | (go_at_call_of 10 gaq0; refine (toGrammar_any _ _ g _ (Rd.gr HG.out (GWY3.trans (by first | assumption | exact (by repeat (first | exact Gr.refl _ | apply Gr.ext | apply Gr.alloc | apply Gr.drew))))) wtg).mono ?_; rintro e w' ⟨ds0, ff0, rfl, ss0, fr0, ex0, rfl⟩)
              | (go_at_call_of 11 taq0; refine (toTree_any _ _ t _ (Rd.gr HT.out (GWY3.trans (by first | assumption | exact (by repeat (first | exact Gr.refl _ | apply Gr.ext | apply Gr.alloc | apply Gr.drew))))) wtt).mono ?_; rintro e w' ⟨ds1, ff1, rfl, ss1, fr1, ex1, rfl⟩)
              | (go_at_call_of 12 xaq0; refine (toInstance_any _ _ x _ (Rd.gr HX.out (GWY3.trans (by first | assumption | exact (by repeat (first | exact Gr.refl _ | apply Gr.ext | apply Gr.alloc | apply Gr.drew)))))).mono ?_; rintro e w' ⟨rfl, ex2, rfl⟩)
              | (go_at_call 9; refine (specSrc_any g t x _ (Rd.gr ss0 (by repeat (first | exact Gr.refl _ | apply Gr.ext | apply Gr.alloc | apply Gr.drew))) (Rd.gr ss1 (by repeat (first | exact Gr.refl _ | apply Gr.ext | apply Gr.alloc | apply Gr.drew))) (Rd.gr HX.out (GWY3.trans (by first | assumption | exact (by repeat (first | exact Gr.refl _ | apply Gr.ext | apply Gr.alloc | apply Gr.drew))))) wtg wtt).mono ?_; rintro e w' ⟨es, fq, rfl, hrw0, hfw0, exz, rfl⟩; rw [← HYV.out] at hrw0; obtain ⟨bq00, bq01, bq1, bq2, bq3, bq4, bq5, eq5, hq5, bq6, eq6, hq6, bq7, eq7, hq7, rfl⟩ := rdEntry_shape hrw0))
          all_goals
            go_wp2_with fail
            go_meet
            refine ⟨_, #[.int .i64 bq00, .string bq01, .int .i64 bq1, .int .i64 bq2, .int .i64 bq3, .string bq4, .slice bq5 eq5 hq5, .slice bq6 eq6 hq6, .slice bq7 eq7 hq7], fq, rfl, (by repeat (first | exact Gr.refl _ | apply Gr.ext | apply Gr.alloc | apply Gr.drew)), by (try simp) <;> omega, fun j u hj => ?_, ?_, hfw0.1, fun c hc => ?_⟩
            rotate_left 1
            · first
              | (refine Rd.gr hrw0 ?_; (repeat (first | exact Gr.refl _ | apply Gr.ext | apply Gr.alloc | apply Gr.drew)); done)
              | (exact Rd.moved hrw0 hfw0 (Gr.refl _) (by simp))
            rotate_right 1
            · match j, hj with
              | 0, hj => obtain rfl := Option.some.inj hj; go_simp
              | 1, hj => obtain rfl := Option.some.inj hj; go_simp
              | 2, hj => obtain rfl := Option.some.inj hj; go_simp
              | 3, hj => obtain rfl := Option.some.inj hj; go_simp
              | 4, hj => obtain rfl := Option.some.inj hj; go_simp
              | 5, hj => obtain rfl := Option.some.inj hj; go_simp
              | 6, hj => obtain rfl := Option.some.inj hj; go_simp
              | 7, hj => obtain rfl := Option.some.inj hj; go_simp
              | 8, hj => obtain rfl := Option.some.inj hj; go_simp
            · have h1 := hfw0.2 c hc
              have h2 := Rd.lt hrw0 c hc
              simp at h1 h2
              constructor <;> (try simp) <;> omega
        case rest =>
          obtain ⟨pw0, esw0, fw0, rfl, gY4, qw0, kw0, rw0, nw0, mw0⟩ := hcut
          obtain ⟨aw0q00, aw0q01, aw0q1, aw0q2, aw0q3, aw0q4, aw0q5, lw0q5, cw0q5, aw0q6, lw0q6, cw0q6, aw0q7, lw0q7, cw0q7, rfl⟩ := rdEntry_shape rw0
          rename World => Y4
          have F_w0 : Hid (fw0.Nodup ∧ ∀ b ∈ fw0, Y3.heap.size + 0 ≤ b) := Lib.hid ⟨nw0, fun b hb => (mw0 b hb).1⟩
          have D_w0 := Lib.hid (fun b (hb : b ∈ fw0) => (mw0 b hb).2)
          have L_w0 := Lib.hid (Rd.lt rw0)
          have ZW0w0 : w.heap.size ≤ Y3.heap.size := Gr.size GWY3
          have cY4_w0_0 : Y4.cell? ⟨pw0, 0, none⟩ = some (.int .i64 aw0q00) := by simpa using kw0 0 _ rfl
          have cY4_w0_1 : Y4.cell? ⟨pw0, 1, none⟩ = some (.string aw0q01) := by simpa using kw0 1 _ rfl
          have cY4_w0_2 : Y4.cell? ⟨pw0, 2, none⟩ = some (.int .i64 aw0q1) := by simpa using kw0 2 _ rfl
          have cY4_w0_3 : Y4.cell? ⟨pw0, 3, none⟩ = some (.int .i64 aw0q2) := by simpa using kw0 3 _ rfl
          have cY4_w0_4 : Y4.cell? ⟨pw0, 4, none⟩ = some (.int .i64 aw0q3) := by simpa using kw0 4 _ rfl
          have cY4_w0_5 : Y4.cell? ⟨pw0, 5, none⟩ = some (.string aw0q4) := by simpa using kw0 5 _ rfl
          have cY4_w0_6 : Y4.cell? ⟨pw0, 6, none⟩ = some (.slice aw0q5 lw0q5 cw0q5) := by simpa using kw0 6 _ rfl
          have cY4_w0_7 : Y4.cell? ⟨pw0, 7, none⟩ = some (.slice aw0q6 lw0q6 cw0q6) := by simpa using kw0 7 _ rfl
          have cY4_w0_8 : Y4.cell? ⟨pw0, 8, none⟩ = some (.slice aw0q7 lw0q7 cw0q7) := by simpa using kw0 8 _ rfl
          have zY4_w0 := blk cY4_w0_0
          have rY4_w0 := Lib.hid rw0
          clear kw0 rw0 nw0 mw0
          have GY4 : Gr Y3 Y4 := ((by repeat (first | exact Gr.refl _ | apply Gr.ext | apply Gr.alloc | apply Gr.drew)) : Gr Y3 Y3).trans gY4
          have GWY4 : Gr w Y4 := GWY3.trans GY4
          have ZY4 : Y3.heap.size ≤ Y4.heap.size := GY4.size
          have cY4_ag_0 : Y4.cell? ⟨w.heap.size, 0, none⟩ = some (.slice gaq0 glq0 gcq0) := GY4.keep cY3_ag_0
          have cY4_ag_1 : Y4.cell? ⟨w.heap.size, 1, none⟩ = some (.slice gaq1 glq1 gcq1) := GY4.keep cY3_ag_1
          have cY4_at_0 : Y4.cell? ⟨w.heap.size + 1, 0, none⟩ = some (.slice taq0 tlq0 tcq0) := GY4.keep cY3_at_0
          have cY4_ax_0 : Y4.cell? ⟨w.heap.size + 1 + 1, 0, none⟩ = some (.int .i64 xaq0) := GY4.keep cY3_ax_0
          have cY4_ax_1 : Y4.cell? ⟨w.heap.size + 1 + 1, 1, none⟩ = some (.string xaq1) := GY4.keep cY3_ax_1
          have zY4_ag := blk cY4_ag_0
          have zY4_at := blk cY4_at_0
          have zY4_ax := blk cY4_ax_0
          clear cY3_ag_0 cY3_ag_1 cY3_at_0 cY3_ax_0 cY3_ax_1
          go_wp2_with fail
          refine (toGrammar_any _ _ g _ (Rd.gr HG.out ((GWY4).trans (by repeat (first | exact Gr.refl _ | apply Gr.ext | apply Gr.alloc | apply Gr.drew)))) wtg).mono ?_
          rintro e Y5 ⟨dsx0, fx0, rfl, sx0, frx0, gY5⟩
          obtain ⟨ax0q0, lx0q0, cx0q0, ax0q1, lx0q1, cx0q1, rfl⟩ := rdGrammar_shape sx0
          have F_x0 : Hid (fx0.Nodup ∧ ∀ b ∈ fx0, Y4.heap.size + 0 ≤ b) := Lib.hid ⟨frx0.1, fun b hb => by have h := frx0.2 b hb; (try simp at h); omega⟩
          have L_x0 := Lib.hid (Rd.lt sx0)
          have ZW0x0 : w.heap.size ≤ Y4.heap.size := Gr.size GWY4
          have rY5_x0 := Lib.hid sx0
          clear sx0 frx0
          have GY5 : Gr Y4 Y5 := ((by repeat (first | exact Gr.refl _ | apply Gr.ext | apply Gr.alloc | apply Gr.drew)) : Gr Y4 Y4).trans gY5
          have GWY5 : Gr w Y5 := GWY4.trans GY5
          have ZY5 : Y4.heap.size ≤ Y5.heap.size := GY5.size
          have cY5_ag_0 : Y5.cell? ⟨w.heap.size, 0, none⟩ = some (.slice gaq0 glq0 gcq0) := GY5.keep cY4_ag_0
          have cY5_ag_1 : Y5.cell? ⟨w.heap.size, 1, none⟩ = some (.slice gaq1 glq1 gcq1) := GY5.keep cY4_ag_1
          have cY5_at_0 : Y5.cell? ⟨w.heap.size + 1, 0, none⟩ = some (.slice taq0 tlq0 tcq0) := GY5.keep cY4_at_0
          have cY5_ax_0 : Y5.cell? ⟨w.heap.size + 1 + 1, 0, none⟩ = some (.int .i64 xaq0) := GY5.keep cY4_ax_0
          have cY5_ax_1 : Y5.cell? ⟨w.heap.size + 1 + 1, 1, none⟩ = some (.string xaq1) := GY5.keep cY4_ax_1
          have cY5_w0_0 : Y5.cell? ⟨pw0, 0, none⟩ = some (.int .i64 aw0q00) := GY5.keep cY4_w0_0
          have cY5_w0_1 : Y5.cell? ⟨pw0, 1, none⟩ = some (.string aw0q01) := GY5.keep cY4_w0_1
          have cY5_w0_2 : Y5.cell? ⟨pw0, 2, none⟩ = some (.int .i64 aw0q1) := GY5.keep cY4_w0_2
          have cY5_w0_3 : Y5.cell? ⟨pw0, 3, none⟩ = some (.int .i64 aw0q2) := GY5.keep cY4_w0_3
          have cY5_w0_4 : Y5.cell? ⟨pw0, 4, none⟩ = some (.int .i64 aw0q3) := GY5.keep cY4_w0_4
          have cY5_w0_5 : Y5.cell? ⟨pw0, 5, none⟩ = some (.string aw0q4) := GY5.keep cY4_w0_5
          have cY5_w0_6 : Y5.cell? ⟨pw0, 6, none⟩ = some (.slice aw0q5 lw0q5 cw0q5) := GY5.keep cY4_w0_6
          have cY5_w0_7 : Y5.cell? ⟨pw0, 7, none⟩ = some (.slice aw0q6 lw0q6 cw0q6) := GY5.keep cY4_w0_7
          have cY5_w0_8 : Y5.cell? ⟨pw0, 8, none⟩ = some (.slice aw0q7 lw0q7 cw0q7) := GY5.keep cY4_w0_8
          have zY5_ag := blk cY5_ag_0
          have zY5_at := blk cY5_at_0
          have zY5_ax := blk cY5_ax_0
          have zY5_w0 := blk cY5_w0_0
          have rY5_w0 := Lib.hid (Rd.gr rY4_w0.out GY5)
          clear cY4_ag_0 cY4_ag_1 cY4_at_0 cY4_ax_0 cY4_ax_1 cY4_w0_0 cY4_w0_1 cY4_w0_2 cY4_w0_3 cY4_w0_4 cY4_w0_5 cY4_w0_6 cY4_w0_7 cY4_w0_8
          go_wp2_with fail
          refine (toTree_any _ _ t _ (Rd.gr HT.out ((GWY5).trans (by repeat (first | exact Gr.refl _ | apply Gr.ext | apply Gr.alloc | apply Gr.drew)))) wtt).mono ?_
          rintro e Y6 ⟨dsx1, fx1, rfl, sx1, frx1, gY6⟩
          obtain ⟨ax1q0, lx1q0, cx1q0, rfl⟩ := rdTree_shape sx1
          have F_x1 : Hid (fx1.Nodup ∧ ∀ b ∈ fx1, Y5.heap.size + 1 ≤ b) := Lib.hid ⟨frx1.1, fun b hb => by have h := frx1.2 b hb; (try simp at h); omega⟩
          have L_x1 := Lib.hid (Rd.lt sx1)
          have ZW0x1 : w.heap.size ≤ Y5.heap.size := Gr.size GWY5
          have rY6_x1 := Lib.hid sx1
          clear sx1 frx1
          have GY6 : Gr Y5 Y6 := ((by repeat (first | exact Gr.refl _ | apply Gr.ext | apply Gr.alloc | apply Gr.drew)) : Gr Y5 (Y5.alloc (.cells #[.slice ax0q0 lx0q0 cx0q0, .slice ax0q1 lx0q1 cx0q1] 43))).trans gY6
          have GWY6 : Gr w Y6 := GWY5.trans GY6
          have ZY6 : Y5.heap.size ≤ Y6.heap.size := GY6.size
          have cY6_ag_0 : Y6.cell? ⟨w.heap.size, 0, none⟩ = some (.slice gaq0 glq0 gcq0) := GY6.keep cY5_ag_0
          have cY6_ag_1 : Y6.cell? ⟨w.heap.size, 1, none⟩ = some (.slice gaq1 glq1 gcq1) := GY6.keep cY5_ag_1
          have cY6_at_0 : Y6.cell? ⟨w.heap.size + 1, 0, none⟩ = some (.slice taq0 tlq0 tcq0) := GY6.keep cY5_at_0
          have cY6_ax_0 : Y6.cell? ⟨w.heap.size + 1 + 1, 0, none⟩ = some (.int .i64 xaq0) := GY6.keep cY5_ax_0
          have cY6_ax_1 : Y6.cell? ⟨w.heap.size + 1 + 1, 1, none⟩ = some (.string xaq1) := GY6.keep cY5_ax_1
          have cY6_w0_0 : Y6.cell? ⟨pw0, 0, none⟩ = some (.int .i64 aw0q00) := GY6.keep cY5_w0_0
          have cY6_w0_1 : Y6.cell? ⟨pw0, 1, none⟩ = some (.string aw0q01) := GY6.keep cY5_w0_1
          have cY6_w0_2 : Y6.cell? ⟨pw0, 2, none⟩ = some (.int .i64 aw0q1) := GY6.keep cY5_w0_2
          have cY6_w0_3 : Y6.cell? ⟨pw0, 3, none⟩ = some (.int .i64 aw0q2) := GY6.keep cY5_w0_3
          have cY6_w0_4 : Y6.cell? ⟨pw0, 4, none⟩ = some (.int .i64 aw0q3) := GY6.keep cY5_w0_4
          have cY6_w0_5 : Y6.cell? ⟨pw0, 5, none⟩ = some (.string aw0q4) := GY6.keep cY5_w0_5
          have cY6_w0_6 : Y6.cell? ⟨pw0, 6, none⟩ = some (.slice aw0q5 lw0q5 cw0q5) := GY6.keep cY5_w0_6
          have cY6_w0_7 : Y6.cell? ⟨pw0, 7, none⟩ = some (.slice aw0q6 lw0q6 cw0q6) := GY6.keep cY5_w0_7
          have cY6_w0_8 : Y6.cell? ⟨pw0, 8, none⟩ = some (.slice aw0q7 lw0q7 cw0q7) := GY6.keep cY5_w0_8
          have cY6_x0_0 : Y6.cell? ⟨Y5.heap.size, 0, none⟩ = some (.slice ax0q0 lx0q0 cx0q0) := (((by repeat (first | exact Gr.refl _ | apply Gr.ext | apply Gr.alloc | apply Gr.drew)) : Gr (Y5.alloc (.cells #[.slice ax0q0 lx0q0 cx0q0, .slice ax0q1 lx0q1 cx0q1] 43)) (Y5.alloc (.cells #[.slice ax0q0 lx0q0 cx0q0, .slice ax0q1 lx0q1 cx0q1] 43))).trans gY6).keep (box_cell (A := _) (by simp) rfl : ((Y5.alloc (.cells #[.slice ax0q0 lx0q0 cx0q0, .slice ax0q1 lx0q1 cx0q1] 43))).cell? ⟨Y5.heap.size, 0, none⟩ = some (.slice ax0q0 lx0q0 cx0q0))
          have cY6_x0_1 : Y6.cell? ⟨Y5.heap.size, 1, none⟩ = some (.slice ax0q1 lx0q1 cx0q1) := (((by repeat (first | exact Gr.refl _ | apply Gr.ext | apply Gr.alloc | apply Gr.drew)) : Gr (Y5.alloc (.cells #[.slice ax0q0 lx0q0 cx0q0, .slice ax0q1 lx0q1 cx0q1] 43)) (Y5.alloc (.cells #[.slice ax0q0 lx0q0 cx0q0, .slice ax0q1 lx0q1 cx0q1] 43))).trans gY6).keep (box_cell (A := _) (by simp) rfl : ((Y5.alloc (.cells #[.slice ax0q0 lx0q0 cx0q0, .slice ax0q1 lx0q1 cx0q1] 43))).cell? ⟨Y5.heap.size, 1, none⟩ = some (.slice ax0q1 lx0q1 cx0q1))
          have zY6_ag := blk cY6_ag_0
          have zY6_at := blk cY6_at_0
          have zY6_ax := blk cY6_ax_0
          have zY6_w0 := blk cY6_w0_0
          have zY6_x0 := blk cY6_x0_0
          have rY6_w0 := Lib.hid (Rd.gr rY5_w0.out GY6)
          have rY6_x0 := Lib.hid (Rd.gr rY5_x0.out GY6)
          clear cY5_ag_0 cY5_ag_1 cY5_at_0 cY5_ax_0 cY5_ax_1 cY5_w0_0 cY5_w0_1 cY5_w0_2 cY5_w0_3 cY5_w0_4 cY5_w0_5 cY5_w0_6 cY5_w0_7 cY5_w0_8
          go_upto_region 14 with fail
          generalize hWY7 : (Y6.alloc (.cells #[.slice ax1q0 lx1q0 cx1q0] 47)) = Y7
          have gY7 : Gr (Y6.alloc (.cells #[.slice ax1q0 lx1q0 cx1q0] 47)) Y7 := by rw [hWY7]; exact Gr.refl _
          clear hWY7
          have GY7 : Gr Y6 Y7 := ((by repeat (first | exact Gr.refl _ | apply Gr.ext | apply Gr.alloc | apply Gr.drew)) : Gr Y6 (Y6.alloc (.cells #[.slice ax1q0 lx1q0 cx1q0] 47))).trans gY7
          have GWY7 : Gr w Y7 := GWY6.trans GY7
          have ZY7 : Y6.heap.size ≤ Y7.heap.size := GY7.size
          have cY7_ag_0 : Y7.cell? ⟨w.heap.size, 0, none⟩ = some (.slice gaq0 glq0 gcq0) := GY7.keep cY6_ag_0
          have cY7_ag_1 : Y7.cell? ⟨w.heap.size, 1, none⟩ = some (.slice gaq1 glq1 gcq1) := GY7.keep cY6_ag_1
          have cY7_at_0 : Y7.cell? ⟨w.heap.size + 1, 0, none⟩ = some (.slice taq0 tlq0 tcq0) := GY7.keep cY6_at_0
          have cY7_ax_0 : Y7.cell? ⟨w.heap.size + 1 + 1, 0, none⟩ = some (.int .i64 xaq0) := GY7.keep cY6_ax_0
          have cY7_ax_1 : Y7.cell? ⟨w.heap.size + 1 + 1, 1, none⟩ = some (.string xaq1) := GY7.keep cY6_ax_1
          have cY7_w0_0 : Y7.cell? ⟨pw0, 0, none⟩ = some (.int .i64 aw0q00) := GY7.keep cY6_w0_0
          have cY7_w0_1 : Y7.cell? ⟨pw0, 1, none⟩ = some (.string aw0q01) := GY7.keep cY6_w0_1
          have cY7_w0_2 : Y7.cell? ⟨pw0, 2, none⟩ = some (.int .i64 aw0q1) := GY7.keep cY6_w0_2
          have cY7_w0_3 : Y7.cell? ⟨pw0, 3, none⟩ = some (.int .i64 aw0q2) := GY7.keep cY6_w0_3
          have cY7_w0_4 : Y7.cell? ⟨pw0, 4, none⟩ = some (.int .i64 aw0q3) := GY7.keep cY6_w0_4
          have cY7_w0_5 : Y7.cell? ⟨pw0, 5, none⟩ = some (.string aw0q4) := GY7.keep cY6_w0_5
          have cY7_w0_6 : Y7.cell? ⟨pw0, 6, none⟩ = some (.slice aw0q5 lw0q5 cw0q5) := GY7.keep cY6_w0_6
          have cY7_w0_7 : Y7.cell? ⟨pw0, 7, none⟩ = some (.slice aw0q6 lw0q6 cw0q6) := GY7.keep cY6_w0_7
          have cY7_w0_8 : Y7.cell? ⟨pw0, 8, none⟩ = some (.slice aw0q7 lw0q7 cw0q7) := GY7.keep cY6_w0_8
          have cY7_x0_0 : Y7.cell? ⟨Y5.heap.size, 0, none⟩ = some (.slice ax0q0 lx0q0 cx0q0) := GY7.keep cY6_x0_0
          have cY7_x0_1 : Y7.cell? ⟨Y5.heap.size, 1, none⟩ = some (.slice ax0q1 lx0q1 cx0q1) := GY7.keep cY6_x0_1
          have cY7_x1_0 : Y7.cell? ⟨Y6.heap.size, 0, none⟩ = some (.slice ax1q0 lx1q0 cx1q0) := (((by repeat (first | exact Gr.refl _ | apply Gr.ext | apply Gr.alloc | apply Gr.drew)) : Gr (Y6.alloc (.cells #[.slice ax1q0 lx1q0 cx1q0] 47)) (Y6.alloc (.cells #[.slice ax1q0 lx1q0 cx1q0] 47))).trans gY7).keep (box_cell (A := _) (by simp) rfl : ((Y6.alloc (.cells #[.slice ax1q0 lx1q0 cx1q0] 47))).cell? ⟨Y6.heap.size, 0, none⟩ = some (.slice ax1q0 lx1q0 cx1q0))
          have zY7_ag := blk cY7_ag_0
          have zY7_at := blk cY7_at_0
          have zY7_ax := blk cY7_ax_0
          have zY7_w0 := blk cY7_w0_0
          have zY7_x0 := blk cY7_x0_0
          have zY7_x1 := blk cY7_x1_0
          have rY7_w0 := Lib.hid (Rd.gr rY6_w0.out GY7)
          have rY7_x0 := Lib.hid (Rd.gr rY6_x0.out GY7)
          have rY7_x1 := Lib.hid (Rd.gr rY6_x1.out GY7)
          clear cY6_ag_0 cY6_ag_1 cY6_at_0 cY6_ax_0 cY6_ax_1 cY6_w0_0 cY6_w0_1 cY6_w0_2 cY6_w0_3 cY6_w0_4 cY6_w0_5 cY6_w0_6 cY6_w0_7 cY6_w0_8 cY6_x0_0 cY6_x0_1
          go_cut [11] (fun sp wx => BoxOne Y7 yv sp wx)
          case first =>
            have kcY7_ag_0 : ∀ w' : World, Gr Y7 w' → w'.cell? ⟨w.heap.size, 0, none⟩ = some (.slice gaq0 glq0 gcq0) := fun w' h => h.keep cY7_ag_0
            have kcY7_ag_1 : ∀ w' : World, Gr Y7 w' → w'.cell? ⟨w.heap.size, 1, none⟩ = some (.slice gaq1 glq1 gcq1) := fun w' h => h.keep cY7_ag_1
            have kcY7_at_0 : ∀ w' : World, Gr Y7 w' → w'.cell? ⟨w.heap.size + 1, 0, none⟩ = some (.slice taq0 tlq0 tcq0) := fun w' h => h.keep cY7_at_0
            have kcY7_ax_0 : ∀ w' : World, Gr Y7 w' → w'.cell? ⟨w.heap.size + 1 + 1, 0, none⟩ = some (.int .i64 xaq0) := fun w' h => h.keep cY7_ax_0
            have kcY7_ax_1 : ∀ w' : World, Gr Y7 w' → w'.cell? ⟨w.heap.size + 1 + 1, 1, none⟩ = some (.string xaq1) := fun w' h => h.keep cY7_ax_1
            have kcY7_w0_0 : ∀ w' : World, Gr Y7 w' → w'.cell? ⟨pw0, 0, none⟩ = some (.int .i64 aw0q00) := fun w' h => h.keep cY7_w0_0
            have kcY7_w0_1 : ∀ w' : World, Gr Y7 w' → w'.cell? ⟨pw0, 1, none⟩ = some (.string aw0q01) := fun w' h => h.keep cY7_w0_1
            have kcY7_w0_2 : ∀ w' : World, Gr Y7 w' → w'.cell? ⟨pw0, 2, none⟩ = some (.int .i64 aw0q1) := fun w' h => h.keep cY7_w0_2
            have kcY7_w0_3 : ∀ w' : World, Gr Y7 w' → w'.cell? ⟨pw0, 3, none⟩ = some (.int .i64 aw0q2) := fun w' h => h.keep cY7_w0_3
            have kcY7_w0_4 : ∀ w' : World, Gr Y7 w' → w'.cell? ⟨pw0, 4, none⟩ = some (.int .i64 aw0q3) := fun w' h => h.keep cY7_w0_4
            have kcY7_w0_5 : ∀ w' : World, Gr Y7 w' → w'.cell? ⟨pw0, 5, none⟩ = some (.string aw0q4) := fun w' h => h.keep cY7_w0_5
            have kcY7_w0_6 : ∀ w' : World, Gr Y7 w' → w'.cell? ⟨pw0, 6, none⟩ = some (.slice aw0q5 lw0q5 cw0q5) := fun w' h => h.keep cY7_w0_6
            have kcY7_w0_7 : ∀ w' : World, Gr Y7 w' → w'.cell? ⟨pw0, 7, none⟩ = some (.slice aw0q6 lw0q6 cw0q6) := fun w' h => h.keep cY7_w0_7
            have kcY7_w0_8 : ∀ w' : World, Gr Y7 w' → w'.cell? ⟨pw0, 8, none⟩ = some (.slice aw0q7 lw0q7 cw0q7) := fun w' h => h.keep cY7_w0_8
            have kcY7_x0_0 : ∀ w' : World, Gr Y7 w' → w'.cell? ⟨Y5.heap.size, 0, none⟩ = some (.slice ax0q0 lx0q0 cx0q0) := fun w' h => h.keep cY7_x0_0
            have kcY7_x0_1 : ∀ w' : World, Gr Y7 w' → w'.cell? ⟨Y5.heap.size, 1, none⟩ = some (.slice ax0q1 lx0q1 cx0q1) := fun w' h => h.keep cY7_x0_1
            have kcY7_x1_0 : ∀ w' : World, Gr Y7 w' → w'.cell? ⟨Y6.heap.size, 0, none⟩ = some (.slice ax1q0 lx1q0 cx1q0) := fun w' h => h.keep cY7_x1_0
            go_region_held3 (fun w' => Gr Y7 w') (first | assumption | exact Gr.drew (Gr.refl _) | (repeat (first | assumption | exact Gr.refl _ | apply Gr.ext | apply Gr.alloc | apply Gr.drew)))
              (first
                | (go_at_call_of 12 xaq0; refine (toInstance_any _ _ x _ (Rd.gr HX.out (GWY7.trans (by first | assumption | exact (by repeat (first | exact Gr.refl _ | apply Gr.ext | apply Gr.alloc | apply Gr.drew)))))).mono ?_; rintro e w' ⟨rfl, ex2, rfl⟩)
                | (go_at_call 13; refine (implSrc_any g t x _ (Rd.gr rY7_x0.out (by first | assumption | exact (by repeat (first | exact Gr.refl _ | apply Gr.ext | apply Gr.alloc | apply Gr.drew)))) (Rd.gr rY7_x1.out (by first | assumption | exact (by repeat (first | exact Gr.refl _ | apply Gr.ext | apply Gr.alloc | apply Gr.drew)))) (Rd.gr HX.out (GWY7.trans (by first | assumption | exact (by repeat (first | exact Gr.refl _ | apply Gr.ext | apply Gr.alloc | apply Gr.drew))))) wtg wtt).mono ?_; rintro e w' ⟨es, fq, rfl, hrg0, hfg0, exz, rfl⟩; rw [← HYV.out] at hrg0; obtain ⟨bq00, bq01, bq1, bq2, bq3, bq4, bq5, eq5, hq5, bq6, eq6, hq6, bq7, eq7, hq7, rfl⟩ := rdEntry_shape hrg0))
            all_goals
              go_wp2_with fail
              go_meet
              refine ⟨_, #[.int .i64 bq00, .string bq01, .int .i64 bq1, .int .i64 bq2, .int .i64 bq3, .string bq4, .slice bq5 eq5 hq5, .slice bq6 eq6 hq6, .slice bq7 eq7 hq7], fq, rfl, (by repeat (first | exact Gr.refl _ | apply Gr.ext | apply Gr.alloc | apply Gr.drew)), by (try simp) <;> omega, fun j u hj => ?_, ?_, hfg0.1, fun c hc => ?_⟩
              rotate_left 1
              · first
                | (refine Rd.gr hrg0 ?_; (repeat (first | exact Gr.refl _ | apply Gr.ext | apply Gr.alloc | apply Gr.drew)); done)
                | (exact Rd.moved hrg0 hfg0 (Gr.refl _) (by simp))
              rotate_right 1
              · match j, hj with
                | 0, hj => obtain rfl := Option.some.inj hj; go_simp
                | 1, hj => obtain rfl := Option.some.inj hj; go_simp
                | 2, hj => obtain rfl := Option.some.inj hj; go_simp
                | 3, hj => obtain rfl := Option.some.inj hj; go_simp
                | 4, hj => obtain rfl := Option.some.inj hj; go_simp
                | 5, hj => obtain rfl := Option.some.inj hj; go_simp
                | 6, hj => obtain rfl := Option.some.inj hj; go_simp
                | 7, hj => obtain rfl := Option.some.inj hj; go_simp
                | 8, hj => obtain rfl := Option.some.inj hj; go_simp
              · have h1 := hfg0.2 c hc
                have h2 := Rd.lt hrg0 c hc
                simp at h1 h2
                constructor <;> (try simp) <;> omega
          case rest =>
            obtain ⟨pg0, esg0, fg0, rfl, gY8, qg0, kg0, rg0, ng0, mg0⟩ := hcut
            obtain ⟨ag0q00, ag0q01, ag0q1, ag0q2, ag0q3, ag0q4, ag0q5, lg0q5, cg0q5, ag0q6, lg0q6, cg0q6, ag0q7, lg0q7, cg0q7, rfl⟩ := rdEntry_shape rg0
            rename World => Y8
            have F_g0 : Hid (fg0.Nodup ∧ ∀ b ∈ fg0, Y7.heap.size + 0 ≤ b) := Lib.hid ⟨ng0, fun b hb => (mg0 b hb).1⟩
            have D_g0 := Lib.hid (fun b (hb : b ∈ fg0) => (mg0 b hb).2)
            have L_g0 := Lib.hid (Rd.lt rg0)
            have ZW0g0 : w.heap.size ≤ Y7.heap.size := Gr.size GWY7
            have cY8_g0_0 : Y8.cell? ⟨pg0, 0, none⟩ = some (.int .i64 ag0q00) := by simpa using kg0 0 _ rfl
            have cY8_g0_1 : Y8.cell? ⟨pg0, 1, none⟩ = some (.string ag0q01) := by simpa using kg0 1 _ rfl
            have cY8_g0_2 : Y8.cell? ⟨pg0, 2, none⟩ = some (.int .i64 ag0q1) := by simpa using kg0 2 _ rfl
            have cY8_g0_3 : Y8.cell? ⟨pg0, 3, none⟩ = some (.int .i64 ag0q2) := by simpa using kg0 3 _ rfl
            have cY8_g0_4 : Y8.cell? ⟨pg0, 4, none⟩ = some (.int .i64 ag0q3) := by simpa using kg0 4 _ rfl
            have cY8_g0_5 : Y8.cell? ⟨pg0, 5, none⟩ = some (.string ag0q4) := by simpa using kg0 5 _ rfl
            have cY8_g0_6 : Y8.cell? ⟨pg0, 6, none⟩ = some (.slice ag0q5 lg0q5 cg0q5) := by simpa using kg0 6 _ rfl
            have cY8_g0_7 : Y8.cell? ⟨pg0, 7, none⟩ = some (.slice ag0q6 lg0q6 cg0q6) := by simpa using kg0 7 _ rfl
            have cY8_g0_8 : Y8.cell? ⟨pg0, 8, none⟩ = some (.slice ag0q7 lg0q7 cg0q7) := by simpa using kg0 8 _ rfl
            have zY8_g0 := blk cY8_g0_0
            have rY8_g0 := Lib.hid rg0
            clear kg0 rg0 ng0 mg0
            have GY8 : Gr Y7 Y8 := ((by repeat (first | exact Gr.refl _ | apply Gr.ext | apply Gr.alloc | apply Gr.drew)) : Gr Y7 Y7).trans gY8
            have GWY8 : Gr w Y8 := GWY7.trans GY8
            have ZY8 : Y7.heap.size ≤ Y8.heap.size := GY8.size
            have cY8_ag_0 : Y8.cell? ⟨w.heap.size, 0, none⟩ = some (.slice gaq0 glq0 gcq0) := GY8.keep cY7_ag_0
            have cY8_ag_1 : Y8.cell? ⟨w.heap.size, 1, none⟩ = some (.slice gaq1 glq1 gcq1) := GY8.keep cY7_ag_1
            have cY8_at_0 : Y8.cell? ⟨w.heap.size + 1, 0, none⟩ = some (.slice taq0 tlq0 tcq0) := GY8.keep cY7_at_0
            have cY8_ax_0 : Y8.cell? ⟨w.heap.size + 1 + 1, 0, none⟩ = some (.int .i64 xaq0) := GY8.keep cY7_ax_0
            have cY8_ax_1 : Y8.cell? ⟨w.heap.size + 1 + 1, 1, none⟩ = some (.string xaq1) := GY8.keep cY7_ax_1
            have cY8_w0_0 : Y8.cell? ⟨pw0, 0, none⟩ = some (.int .i64 aw0q00) := GY8.keep cY7_w0_0
            have cY8_w0_1 : Y8.cell? ⟨pw0, 1, none⟩ = some (.string aw0q01) := GY8.keep cY7_w0_1
            have cY8_w0_2 : Y8.cell? ⟨pw0, 2, none⟩ = some (.int .i64 aw0q1) := GY8.keep cY7_w0_2
            have cY8_w0_3 : Y8.cell? ⟨pw0, 3, none⟩ = some (.int .i64 aw0q2) := GY8.keep cY7_w0_3
            have cY8_w0_4 : Y8.cell? ⟨pw0, 4, none⟩ = some (.int .i64 aw0q3) := GY8.keep cY7_w0_4
            have cY8_w0_5 : Y8.cell? ⟨pw0, 5, none⟩ = some (.string aw0q4) := GY8.keep cY7_w0_5
            have cY8_w0_6 : Y8.cell? ⟨pw0, 6, none⟩ = some (.slice aw0q5 lw0q5 cw0q5) := GY8.keep cY7_w0_6
            have cY8_w0_7 : Y8.cell? ⟨pw0, 7, none⟩ = some (.slice aw0q6 lw0q6 cw0q6) := GY8.keep cY7_w0_7
            have cY8_w0_8 : Y8.cell? ⟨pw0, 8, none⟩ = some (.slice aw0q7 lw0q7 cw0q7) := GY8.keep cY7_w0_8
            have cY8_x0_0 : Y8.cell? ⟨Y5.heap.size, 0, none⟩ = some (.slice ax0q0 lx0q0 cx0q0) := GY8.keep cY7_x0_0
            have cY8_x0_1 : Y8.cell? ⟨Y5.heap.size, 1, none⟩ = some (.slice ax0q1 lx0q1 cx0q1) := GY8.keep cY7_x0_1
            have cY8_x1_0 : Y8.cell? ⟨Y6.heap.size, 0, none⟩ = some (.slice ax1q0 lx1q0 cx1q0) := GY8.keep cY7_x1_0
            have zY8_ag := blk cY8_ag_0
            have zY8_at := blk cY8_at_0
            have zY8_ax := blk cY8_ax_0
            have zY8_w0 := blk cY8_w0_0
            have zY8_x0 := blk cY8_x0_0
            have zY8_x1 := blk cY8_x1_0
            have rY8_w0 := Lib.hid (Rd.gr rY7_w0.out GY8)
            have rY8_x0 := Lib.hid (Rd.gr rY7_x0.out GY8)
            have rY8_x1 := Lib.hid (Rd.gr rY7_x1.out GY8)
            clear cY7_ag_0 cY7_ag_1 cY7_at_0 cY7_ax_0 cY7_ax_1 cY7_w0_0 cY7_w0_1 cY7_w0_2 cY7_w0_3 cY7_w0_4 cY7_w0_5 cY7_w0_6 cY7_w0_7 cY7_w0_8 cY7_x0_0 cY7_x0_1 cY7_x1_0
            go_wp2_with fail
            refine (eqEntry_any _ _ _ _ yv yv _ rY8_g0.out rY8_w0.out).mono ?_
            rintro e Y9 ⟨rfl, gY9⟩
            rw [decide_eq_true rfl]
            have GY9 : Gr Y8 Y9 := ((by repeat (first | exact Gr.refl _ | apply Gr.ext | apply Gr.alloc | apply Gr.drew)) : Gr Y8 Y8).trans gY9
            have GWY9 : Gr w Y9 := GWY8.trans GY9
            have ZY9 : Y8.heap.size ≤ Y9.heap.size := GY9.size
            have cY9_ag_0 : Y9.cell? ⟨w.heap.size, 0, none⟩ = some (.slice gaq0 glq0 gcq0) := GY9.keep cY8_ag_0
            have cY9_ag_1 : Y9.cell? ⟨w.heap.size, 1, none⟩ = some (.slice gaq1 glq1 gcq1) := GY9.keep cY8_ag_1
            have cY9_at_0 : Y9.cell? ⟨w.heap.size + 1, 0, none⟩ = some (.slice taq0 tlq0 tcq0) := GY9.keep cY8_at_0
            have cY9_ax_0 : Y9.cell? ⟨w.heap.size + 1 + 1, 0, none⟩ = some (.int .i64 xaq0) := GY9.keep cY8_ax_0
            have cY9_ax_1 : Y9.cell? ⟨w.heap.size + 1 + 1, 1, none⟩ = some (.string xaq1) := GY9.keep cY8_ax_1
            have cY9_w0_0 : Y9.cell? ⟨pw0, 0, none⟩ = some (.int .i64 aw0q00) := GY9.keep cY8_w0_0
            have cY9_w0_1 : Y9.cell? ⟨pw0, 1, none⟩ = some (.string aw0q01) := GY9.keep cY8_w0_1
            have cY9_w0_2 : Y9.cell? ⟨pw0, 2, none⟩ = some (.int .i64 aw0q1) := GY9.keep cY8_w0_2
            have cY9_w0_3 : Y9.cell? ⟨pw0, 3, none⟩ = some (.int .i64 aw0q2) := GY9.keep cY8_w0_3
            have cY9_w0_4 : Y9.cell? ⟨pw0, 4, none⟩ = some (.int .i64 aw0q3) := GY9.keep cY8_w0_4
            have cY9_w0_5 : Y9.cell? ⟨pw0, 5, none⟩ = some (.string aw0q4) := GY9.keep cY8_w0_5
            have cY9_w0_6 : Y9.cell? ⟨pw0, 6, none⟩ = some (.slice aw0q5 lw0q5 cw0q5) := GY9.keep cY8_w0_6
            have cY9_w0_7 : Y9.cell? ⟨pw0, 7, none⟩ = some (.slice aw0q6 lw0q6 cw0q6) := GY9.keep cY8_w0_7
            have cY9_w0_8 : Y9.cell? ⟨pw0, 8, none⟩ = some (.slice aw0q7 lw0q7 cw0q7) := GY9.keep cY8_w0_8
            have cY9_x0_0 : Y9.cell? ⟨Y5.heap.size, 0, none⟩ = some (.slice ax0q0 lx0q0 cx0q0) := GY9.keep cY8_x0_0
            have cY9_x0_1 : Y9.cell? ⟨Y5.heap.size, 1, none⟩ = some (.slice ax0q1 lx0q1 cx0q1) := GY9.keep cY8_x0_1
            have cY9_x1_0 : Y9.cell? ⟨Y6.heap.size, 0, none⟩ = some (.slice ax1q0 lx1q0 cx1q0) := GY9.keep cY8_x1_0
            have cY9_g0_0 : Y9.cell? ⟨pg0, 0, none⟩ = some (.int .i64 ag0q00) := GY9.keep cY8_g0_0
            have cY9_g0_1 : Y9.cell? ⟨pg0, 1, none⟩ = some (.string ag0q01) := GY9.keep cY8_g0_1
            have cY9_g0_2 : Y9.cell? ⟨pg0, 2, none⟩ = some (.int .i64 ag0q1) := GY9.keep cY8_g0_2
            have cY9_g0_3 : Y9.cell? ⟨pg0, 3, none⟩ = some (.int .i64 ag0q2) := GY9.keep cY8_g0_3
            have cY9_g0_4 : Y9.cell? ⟨pg0, 4, none⟩ = some (.int .i64 ag0q3) := GY9.keep cY8_g0_4
            have cY9_g0_5 : Y9.cell? ⟨pg0, 5, none⟩ = some (.string ag0q4) := GY9.keep cY8_g0_5
            have cY9_g0_6 : Y9.cell? ⟨pg0, 6, none⟩ = some (.slice ag0q5 lg0q5 cg0q5) := GY9.keep cY8_g0_6
            have cY9_g0_7 : Y9.cell? ⟨pg0, 7, none⟩ = some (.slice ag0q6 lg0q6 cg0q6) := GY9.keep cY8_g0_7
            have cY9_g0_8 : Y9.cell? ⟨pg0, 8, none⟩ = some (.slice ag0q7 lg0q7 cg0q7) := GY9.keep cY8_g0_8
            have zY9_ag := blk cY9_ag_0
            have zY9_at := blk cY9_at_0
            have zY9_ax := blk cY9_ax_0
            have zY9_w0 := blk cY9_w0_0
            have zY9_x0 := blk cY9_x0_0
            have zY9_x1 := blk cY9_x1_0
            have zY9_g0 := blk cY9_g0_0
            have rY9_w0 := Lib.hid (Rd.gr rY8_w0.out GY9)
            have rY9_x0 := Lib.hid (Rd.gr rY8_x0.out GY9)
            have rY9_x1 := Lib.hid (Rd.gr rY8_x1.out GY9)
            have rY9_g0 := Lib.hid (Rd.gr rY8_g0.out GY9)
            clear cY8_ag_0 cY8_ag_1 cY8_at_0 cY8_ax_0 cY8_ax_1 cY8_w0_0 cY8_w0_1 cY8_w0_2 cY8_w0_3 cY8_w0_4 cY8_w0_5 cY8_w0_6 cY8_w0_7 cY8_w0_8 cY8_x0_0 cY8_x0_1 cY8_x1_0 cY8_g0_0 cY8_g0_1 cY8_g0_2 cY8_g0_3 cY8_g0_4 cY8_g0_5 cY8_g0_6 cY8_g0_7 cY8_g0_8
            go_wp2_with fail
            have kcY9_ag_0 : ∀ w' : World, Gr Y9 w' → w'.cell? ⟨w.heap.size, 0, none⟩ = some (.slice gaq0 glq0 gcq0) := fun w' h => h.keep cY9_ag_0
            have kcY9_ag_1 : ∀ w' : World, Gr Y9 w' → w'.cell? ⟨w.heap.size, 1, none⟩ = some (.slice gaq1 glq1 gcq1) := fun w' h => h.keep cY9_ag_1
            have kcY9_at_0 : ∀ w' : World, Gr Y9 w' → w'.cell? ⟨w.heap.size + 1, 0, none⟩ = some (.slice taq0 tlq0 tcq0) := fun w' h => h.keep cY9_at_0
            have kcY9_ax_0 : ∀ w' : World, Gr Y9 w' → w'.cell? ⟨w.heap.size + 1 + 1, 0, none⟩ = some (.int .i64 xaq0) := fun w' h => h.keep cY9_ax_0
            have kcY9_ax_1 : ∀ w' : World, Gr Y9 w' → w'.cell? ⟨w.heap.size + 1 + 1, 1, none⟩ = some (.string xaq1) := fun w' h => h.keep cY9_ax_1
            have kcY9_w0_0 : ∀ w' : World, Gr Y9 w' → w'.cell? ⟨pw0, 0, none⟩ = some (.int .i64 aw0q00) := fun w' h => h.keep cY9_w0_0
            have kcY9_w0_1 : ∀ w' : World, Gr Y9 w' → w'.cell? ⟨pw0, 1, none⟩ = some (.string aw0q01) := fun w' h => h.keep cY9_w0_1
            have kcY9_w0_2 : ∀ w' : World, Gr Y9 w' → w'.cell? ⟨pw0, 2, none⟩ = some (.int .i64 aw0q1) := fun w' h => h.keep cY9_w0_2
            have kcY9_w0_3 : ∀ w' : World, Gr Y9 w' → w'.cell? ⟨pw0, 3, none⟩ = some (.int .i64 aw0q2) := fun w' h => h.keep cY9_w0_3
            have kcY9_w0_4 : ∀ w' : World, Gr Y9 w' → w'.cell? ⟨pw0, 4, none⟩ = some (.int .i64 aw0q3) := fun w' h => h.keep cY9_w0_4
            have kcY9_w0_5 : ∀ w' : World, Gr Y9 w' → w'.cell? ⟨pw0, 5, none⟩ = some (.string aw0q4) := fun w' h => h.keep cY9_w0_5
            have kcY9_w0_6 : ∀ w' : World, Gr Y9 w' → w'.cell? ⟨pw0, 6, none⟩ = some (.slice aw0q5 lw0q5 cw0q5) := fun w' h => h.keep cY9_w0_6
            have kcY9_w0_7 : ∀ w' : World, Gr Y9 w' → w'.cell? ⟨pw0, 7, none⟩ = some (.slice aw0q6 lw0q6 cw0q6) := fun w' h => h.keep cY9_w0_7
            have kcY9_w0_8 : ∀ w' : World, Gr Y9 w' → w'.cell? ⟨pw0, 8, none⟩ = some (.slice aw0q7 lw0q7 cw0q7) := fun w' h => h.keep cY9_w0_8
            have kcY9_x0_0 : ∀ w' : World, Gr Y9 w' → w'.cell? ⟨Y5.heap.size, 0, none⟩ = some (.slice ax0q0 lx0q0 cx0q0) := fun w' h => h.keep cY9_x0_0
            have kcY9_x0_1 : ∀ w' : World, Gr Y9 w' → w'.cell? ⟨Y5.heap.size, 1, none⟩ = some (.slice ax0q1 lx0q1 cx0q1) := fun w' h => h.keep cY9_x0_1
            have kcY9_x1_0 : ∀ w' : World, Gr Y9 w' → w'.cell? ⟨Y6.heap.size, 0, none⟩ = some (.slice ax1q0 lx1q0 cx1q0) := fun w' h => h.keep cY9_x1_0
            have kcY9_g0_0 : ∀ w' : World, Gr Y9 w' → w'.cell? ⟨pg0, 0, none⟩ = some (.int .i64 ag0q00) := fun w' h => h.keep cY9_g0_0
            have kcY9_g0_1 : ∀ w' : World, Gr Y9 w' → w'.cell? ⟨pg0, 1, none⟩ = some (.string ag0q01) := fun w' h => h.keep cY9_g0_1
            have kcY9_g0_2 : ∀ w' : World, Gr Y9 w' → w'.cell? ⟨pg0, 2, none⟩ = some (.int .i64 ag0q1) := fun w' h => h.keep cY9_g0_2
            have kcY9_g0_3 : ∀ w' : World, Gr Y9 w' → w'.cell? ⟨pg0, 3, none⟩ = some (.int .i64 ag0q2) := fun w' h => h.keep cY9_g0_3
            have kcY9_g0_4 : ∀ w' : World, Gr Y9 w' → w'.cell? ⟨pg0, 4, none⟩ = some (.int .i64 ag0q3) := fun w' h => h.keep cY9_g0_4
            have kcY9_g0_5 : ∀ w' : World, Gr Y9 w' → w'.cell? ⟨pg0, 5, none⟩ = some (.string ag0q4) := fun w' h => h.keep cY9_g0_5
            have kcY9_g0_6 : ∀ w' : World, Gr Y9 w' → w'.cell? ⟨pg0, 6, none⟩ = some (.slice ag0q5 lg0q5 cg0q5) := fun w' h => h.keep cY9_g0_6
            have kcY9_g0_7 : ∀ w' : World, Gr Y9 w' → w'.cell? ⟨pg0, 7, none⟩ = some (.slice ag0q6 lg0q6 cg0q6) := fun w' h => h.keep cY9_g0_7
            have kcY9_g0_8 : ∀ w' : World, Gr Y9 w' → w'.cell? ⟨pg0, 8, none⟩ = some (.slice ag0q7 lg0q7 cg0q7) := fun w' h => h.keep cY9_g0_8
            go_region_held3 (fun w' => Gr Y9 w') (first | assumption | exact Gr.drew (Gr.refl _) | exact Gr.ext (by assumption) _)
              (first
                | ((go_at_call 10; refine (toGrammar_any _ _ g _ (Rd.gr HG.out (GWY9.trans (by assumption))) wtg).mono ?_; rintro e w' ⟨ds5, f5, rfl, s5, fr5, e1, rfl⟩))
                | ((go_at_call 15; refine (eqGrammar_any _ _ _ _ g g _ (Rd.gr rY9_x0.out (by assumption)) s5).mono ?_; rintro e w' ⟨rfl, e2, rfl⟩; rw [decide_eq_true rfl])))
            have hY10 : Gr Y9 ((Y9.drew.ext e1).ext e2) := by assumption
            generalize ((Y9.drew.ext e1).ext e2) = Y10 at hY10 ⊢
            clear kcY9_ag_0 kcY9_ag_1 kcY9_at_0 kcY9_ax_0 kcY9_ax_1 kcY9_w0_0 kcY9_w0_1 kcY9_w0_2 kcY9_w0_3 kcY9_w0_4 kcY9_w0_5 kcY9_w0_6 kcY9_w0_7 kcY9_w0_8 kcY9_x0_0 kcY9_x0_1 kcY9_x1_0 kcY9_g0_0 kcY9_g0_1 kcY9_g0_2 kcY9_g0_3 kcY9_g0_4 kcY9_g0_5 kcY9_g0_6 kcY9_g0_7 kcY9_g0_8
            have GY10 : Gr Y9 Y10 := ((by repeat (first | exact Gr.refl _ | apply Gr.ext | apply Gr.alloc | apply Gr.drew)) : Gr Y9 Y9).trans hY10
            have GWY10 : Gr w Y10 := GWY9.trans GY10
            have ZY10 : Y9.heap.size ≤ Y10.heap.size := GY10.size
            have cY10_ag_0 : Y10.cell? ⟨w.heap.size, 0, none⟩ = some (.slice gaq0 glq0 gcq0) := GY10.keep cY9_ag_0
            have cY10_ag_1 : Y10.cell? ⟨w.heap.size, 1, none⟩ = some (.slice gaq1 glq1 gcq1) := GY10.keep cY9_ag_1
            have cY10_at_0 : Y10.cell? ⟨w.heap.size + 1, 0, none⟩ = some (.slice taq0 tlq0 tcq0) := GY10.keep cY9_at_0
            have cY10_ax_0 : Y10.cell? ⟨w.heap.size + 1 + 1, 0, none⟩ = some (.int .i64 xaq0) := GY10.keep cY9_ax_0
            have cY10_ax_1 : Y10.cell? ⟨w.heap.size + 1 + 1, 1, none⟩ = some (.string xaq1) := GY10.keep cY9_ax_1
            have cY10_w0_0 : Y10.cell? ⟨pw0, 0, none⟩ = some (.int .i64 aw0q00) := GY10.keep cY9_w0_0
            have cY10_w0_1 : Y10.cell? ⟨pw0, 1, none⟩ = some (.string aw0q01) := GY10.keep cY9_w0_1
            have cY10_w0_2 : Y10.cell? ⟨pw0, 2, none⟩ = some (.int .i64 aw0q1) := GY10.keep cY9_w0_2
            have cY10_w0_3 : Y10.cell? ⟨pw0, 3, none⟩ = some (.int .i64 aw0q2) := GY10.keep cY9_w0_3
            have cY10_w0_4 : Y10.cell? ⟨pw0, 4, none⟩ = some (.int .i64 aw0q3) := GY10.keep cY9_w0_4
            have cY10_w0_5 : Y10.cell? ⟨pw0, 5, none⟩ = some (.string aw0q4) := GY10.keep cY9_w0_5
            have cY10_w0_6 : Y10.cell? ⟨pw0, 6, none⟩ = some (.slice aw0q5 lw0q5 cw0q5) := GY10.keep cY9_w0_6
            have cY10_w0_7 : Y10.cell? ⟨pw0, 7, none⟩ = some (.slice aw0q6 lw0q6 cw0q6) := GY10.keep cY9_w0_7
            have cY10_w0_8 : Y10.cell? ⟨pw0, 8, none⟩ = some (.slice aw0q7 lw0q7 cw0q7) := GY10.keep cY9_w0_8
            have cY10_x0_0 : Y10.cell? ⟨Y5.heap.size, 0, none⟩ = some (.slice ax0q0 lx0q0 cx0q0) := GY10.keep cY9_x0_0
            have cY10_x0_1 : Y10.cell? ⟨Y5.heap.size, 1, none⟩ = some (.slice ax0q1 lx0q1 cx0q1) := GY10.keep cY9_x0_1
            have cY10_x1_0 : Y10.cell? ⟨Y6.heap.size, 0, none⟩ = some (.slice ax1q0 lx1q0 cx1q0) := GY10.keep cY9_x1_0
            have cY10_g0_0 : Y10.cell? ⟨pg0, 0, none⟩ = some (.int .i64 ag0q00) := GY10.keep cY9_g0_0
            have cY10_g0_1 : Y10.cell? ⟨pg0, 1, none⟩ = some (.string ag0q01) := GY10.keep cY9_g0_1
            have cY10_g0_2 : Y10.cell? ⟨pg0, 2, none⟩ = some (.int .i64 ag0q1) := GY10.keep cY9_g0_2
            have cY10_g0_3 : Y10.cell? ⟨pg0, 3, none⟩ = some (.int .i64 ag0q2) := GY10.keep cY9_g0_3
            have cY10_g0_4 : Y10.cell? ⟨pg0, 4, none⟩ = some (.int .i64 ag0q3) := GY10.keep cY9_g0_4
            have cY10_g0_5 : Y10.cell? ⟨pg0, 5, none⟩ = some (.string ag0q4) := GY10.keep cY9_g0_5
            have cY10_g0_6 : Y10.cell? ⟨pg0, 6, none⟩ = some (.slice ag0q5 lg0q5 cg0q5) := GY10.keep cY9_g0_6
            have cY10_g0_7 : Y10.cell? ⟨pg0, 7, none⟩ = some (.slice ag0q6 lg0q6 cg0q6) := GY10.keep cY9_g0_7
            have cY10_g0_8 : Y10.cell? ⟨pg0, 8, none⟩ = some (.slice ag0q7 lg0q7 cg0q7) := GY10.keep cY9_g0_8
            have zY10_ag := blk cY10_ag_0
            have zY10_at := blk cY10_at_0
            have zY10_ax := blk cY10_ax_0
            have zY10_w0 := blk cY10_w0_0
            have zY10_x0 := blk cY10_x0_0
            have zY10_x1 := blk cY10_x1_0
            have zY10_g0 := blk cY10_g0_0
            have rY10_w0 := Lib.hid (Rd.gr rY9_w0.out GY10)
            have rY10_x0 := Lib.hid (Rd.gr rY9_x0.out GY10)
            have rY10_x1 := Lib.hid (Rd.gr rY9_x1.out GY10)
            have rY10_g0 := Lib.hid (Rd.gr rY9_g0.out GY10)
            clear cY9_ag_0 cY9_ag_1 cY9_at_0 cY9_ax_0 cY9_ax_1 cY9_w0_0 cY9_w0_1 cY9_w0_2 cY9_w0_3 cY9_w0_4 cY9_w0_5 cY9_w0_6 cY9_w0_7 cY9_w0_8 cY9_x0_0 cY9_x0_1 cY9_x1_0 cY9_g0_0 cY9_g0_1 cY9_g0_2 cY9_g0_3 cY9_g0_4 cY9_g0_5 cY9_g0_6 cY9_g0_7 cY9_g0_8
            clear s5 fr5
            go_wp2_with fail
            have kcY10_ag_0 : ∀ w' : World, Gr Y10 w' → w'.cell? ⟨w.heap.size, 0, none⟩ = some (.slice gaq0 glq0 gcq0) := fun w' h => h.keep cY10_ag_0
            have kcY10_ag_1 : ∀ w' : World, Gr Y10 w' → w'.cell? ⟨w.heap.size, 1, none⟩ = some (.slice gaq1 glq1 gcq1) := fun w' h => h.keep cY10_ag_1
            have kcY10_at_0 : ∀ w' : World, Gr Y10 w' → w'.cell? ⟨w.heap.size + 1, 0, none⟩ = some (.slice taq0 tlq0 tcq0) := fun w' h => h.keep cY10_at_0
            have kcY10_ax_0 : ∀ w' : World, Gr Y10 w' → w'.cell? ⟨w.heap.size + 1 + 1, 0, none⟩ = some (.int .i64 xaq0) := fun w' h => h.keep cY10_ax_0
            have kcY10_ax_1 : ∀ w' : World, Gr Y10 w' → w'.cell? ⟨w.heap.size + 1 + 1, 1, none⟩ = some (.string xaq1) := fun w' h => h.keep cY10_ax_1
            have kcY10_w0_0 : ∀ w' : World, Gr Y10 w' → w'.cell? ⟨pw0, 0, none⟩ = some (.int .i64 aw0q00) := fun w' h => h.keep cY10_w0_0
            have kcY10_w0_1 : ∀ w' : World, Gr Y10 w' → w'.cell? ⟨pw0, 1, none⟩ = some (.string aw0q01) := fun w' h => h.keep cY10_w0_1
            have kcY10_w0_2 : ∀ w' : World, Gr Y10 w' → w'.cell? ⟨pw0, 2, none⟩ = some (.int .i64 aw0q1) := fun w' h => h.keep cY10_w0_2
            have kcY10_w0_3 : ∀ w' : World, Gr Y10 w' → w'.cell? ⟨pw0, 3, none⟩ = some (.int .i64 aw0q2) := fun w' h => h.keep cY10_w0_3
            have kcY10_w0_4 : ∀ w' : World, Gr Y10 w' → w'.cell? ⟨pw0, 4, none⟩ = some (.int .i64 aw0q3) := fun w' h => h.keep cY10_w0_4
            have kcY10_w0_5 : ∀ w' : World, Gr Y10 w' → w'.cell? ⟨pw0, 5, none⟩ = some (.string aw0q4) := fun w' h => h.keep cY10_w0_5
            have kcY10_w0_6 : ∀ w' : World, Gr Y10 w' → w'.cell? ⟨pw0, 6, none⟩ = some (.slice aw0q5 lw0q5 cw0q5) := fun w' h => h.keep cY10_w0_6
            have kcY10_w0_7 : ∀ w' : World, Gr Y10 w' → w'.cell? ⟨pw0, 7, none⟩ = some (.slice aw0q6 lw0q6 cw0q6) := fun w' h => h.keep cY10_w0_7
            have kcY10_w0_8 : ∀ w' : World, Gr Y10 w' → w'.cell? ⟨pw0, 8, none⟩ = some (.slice aw0q7 lw0q7 cw0q7) := fun w' h => h.keep cY10_w0_8
            have kcY10_x0_0 : ∀ w' : World, Gr Y10 w' → w'.cell? ⟨Y5.heap.size, 0, none⟩ = some (.slice ax0q0 lx0q0 cx0q0) := fun w' h => h.keep cY10_x0_0
            have kcY10_x0_1 : ∀ w' : World, Gr Y10 w' → w'.cell? ⟨Y5.heap.size, 1, none⟩ = some (.slice ax0q1 lx0q1 cx0q1) := fun w' h => h.keep cY10_x0_1
            have kcY10_x1_0 : ∀ w' : World, Gr Y10 w' → w'.cell? ⟨Y6.heap.size, 0, none⟩ = some (.slice ax1q0 lx1q0 cx1q0) := fun w' h => h.keep cY10_x1_0
            have kcY10_g0_0 : ∀ w' : World, Gr Y10 w' → w'.cell? ⟨pg0, 0, none⟩ = some (.int .i64 ag0q00) := fun w' h => h.keep cY10_g0_0
            have kcY10_g0_1 : ∀ w' : World, Gr Y10 w' → w'.cell? ⟨pg0, 1, none⟩ = some (.string ag0q01) := fun w' h => h.keep cY10_g0_1
            have kcY10_g0_2 : ∀ w' : World, Gr Y10 w' → w'.cell? ⟨pg0, 2, none⟩ = some (.int .i64 ag0q1) := fun w' h => h.keep cY10_g0_2
            have kcY10_g0_3 : ∀ w' : World, Gr Y10 w' → w'.cell? ⟨pg0, 3, none⟩ = some (.int .i64 ag0q2) := fun w' h => h.keep cY10_g0_3
            have kcY10_g0_4 : ∀ w' : World, Gr Y10 w' → w'.cell? ⟨pg0, 4, none⟩ = some (.int .i64 ag0q3) := fun w' h => h.keep cY10_g0_4
            have kcY10_g0_5 : ∀ w' : World, Gr Y10 w' → w'.cell? ⟨pg0, 5, none⟩ = some (.string ag0q4) := fun w' h => h.keep cY10_g0_5
            have kcY10_g0_6 : ∀ w' : World, Gr Y10 w' → w'.cell? ⟨pg0, 6, none⟩ = some (.slice ag0q5 lg0q5 cg0q5) := fun w' h => h.keep cY10_g0_6
            have kcY10_g0_7 : ∀ w' : World, Gr Y10 w' → w'.cell? ⟨pg0, 7, none⟩ = some (.slice ag0q6 lg0q6 cg0q6) := fun w' h => h.keep cY10_g0_7
            have kcY10_g0_8 : ∀ w' : World, Gr Y10 w' → w'.cell? ⟨pg0, 8, none⟩ = some (.slice ag0q7 lg0q7 cg0q7) := fun w' h => h.keep cY10_g0_8
            go_region_held3 (fun w' => Gr Y10 w') (first | assumption | exact Gr.drew (Gr.refl _) | exact Gr.ext (by assumption) _)
              (first
                | ((go_at_call 11; refine (toTree_any _ _ t _ (Rd.gr HT.out (GWY10.trans (by assumption))) wtt).mono ?_; rintro e w' ⟨ds5, f5, rfl, s5, fr5, e1, rfl⟩))
                | ((go_at_call 16; refine (eqTree_any _ _ _ _ t t _ (Rd.gr rY10_x1.out (by assumption)) s5).mono ?_; rintro e w' ⟨rfl, e2, rfl⟩; rw [decide_eq_true rfl])))
            have hY11 : Gr Y10 ((Y10.drew.ext e1).ext e2) := by assumption
            generalize ((Y10.drew.ext e1).ext e2) = Y11 at hY11 ⊢
            clear kcY10_ag_0 kcY10_ag_1 kcY10_at_0 kcY10_ax_0 kcY10_ax_1 kcY10_w0_0 kcY10_w0_1 kcY10_w0_2 kcY10_w0_3 kcY10_w0_4 kcY10_w0_5 kcY10_w0_6 kcY10_w0_7 kcY10_w0_8 kcY10_x0_0 kcY10_x0_1 kcY10_x1_0 kcY10_g0_0 kcY10_g0_1 kcY10_g0_2 kcY10_g0_3 kcY10_g0_4 kcY10_g0_5 kcY10_g0_6 kcY10_g0_7 kcY10_g0_8
            have GY11 : Gr Y10 Y11 := ((by repeat (first | exact Gr.refl _ | apply Gr.ext | apply Gr.alloc | apply Gr.drew)) : Gr Y10 Y10).trans hY11
            have GWY11 : Gr w Y11 := GWY10.trans GY11
            have ZY11 : Y10.heap.size ≤ Y11.heap.size := GY11.size
            have cY11_ag_0 : Y11.cell? ⟨w.heap.size, 0, none⟩ = some (.slice gaq0 glq0 gcq0) := GY11.keep cY10_ag_0
            have cY11_ag_1 : Y11.cell? ⟨w.heap.size, 1, none⟩ = some (.slice gaq1 glq1 gcq1) := GY11.keep cY10_ag_1
            have cY11_at_0 : Y11.cell? ⟨w.heap.size + 1, 0, none⟩ = some (.slice taq0 tlq0 tcq0) := GY11.keep cY10_at_0
            have cY11_ax_0 : Y11.cell? ⟨w.heap.size + 1 + 1, 0, none⟩ = some (.int .i64 xaq0) := GY11.keep cY10_ax_0
            have cY11_ax_1 : Y11.cell? ⟨w.heap.size + 1 + 1, 1, none⟩ = some (.string xaq1) := GY11.keep cY10_ax_1
            have cY11_w0_0 : Y11.cell? ⟨pw0, 0, none⟩ = some (.int .i64 aw0q00) := GY11.keep cY10_w0_0
            have cY11_w0_1 : Y11.cell? ⟨pw0, 1, none⟩ = some (.string aw0q01) := GY11.keep cY10_w0_1
            have cY11_w0_2 : Y11.cell? ⟨pw0, 2, none⟩ = some (.int .i64 aw0q1) := GY11.keep cY10_w0_2
            have cY11_w0_3 : Y11.cell? ⟨pw0, 3, none⟩ = some (.int .i64 aw0q2) := GY11.keep cY10_w0_3
            have cY11_w0_4 : Y11.cell? ⟨pw0, 4, none⟩ = some (.int .i64 aw0q3) := GY11.keep cY10_w0_4
            have cY11_w0_5 : Y11.cell? ⟨pw0, 5, none⟩ = some (.string aw0q4) := GY11.keep cY10_w0_5
            have cY11_w0_6 : Y11.cell? ⟨pw0, 6, none⟩ = some (.slice aw0q5 lw0q5 cw0q5) := GY11.keep cY10_w0_6
            have cY11_w0_7 : Y11.cell? ⟨pw0, 7, none⟩ = some (.slice aw0q6 lw0q6 cw0q6) := GY11.keep cY10_w0_7
            have cY11_w0_8 : Y11.cell? ⟨pw0, 8, none⟩ = some (.slice aw0q7 lw0q7 cw0q7) := GY11.keep cY10_w0_8
            have cY11_x0_0 : Y11.cell? ⟨Y5.heap.size, 0, none⟩ = some (.slice ax0q0 lx0q0 cx0q0) := GY11.keep cY10_x0_0
            have cY11_x0_1 : Y11.cell? ⟨Y5.heap.size, 1, none⟩ = some (.slice ax0q1 lx0q1 cx0q1) := GY11.keep cY10_x0_1
            have cY11_x1_0 : Y11.cell? ⟨Y6.heap.size, 0, none⟩ = some (.slice ax1q0 lx1q0 cx1q0) := GY11.keep cY10_x1_0
            have cY11_g0_0 : Y11.cell? ⟨pg0, 0, none⟩ = some (.int .i64 ag0q00) := GY11.keep cY10_g0_0
            have cY11_g0_1 : Y11.cell? ⟨pg0, 1, none⟩ = some (.string ag0q01) := GY11.keep cY10_g0_1
            have cY11_g0_2 : Y11.cell? ⟨pg0, 2, none⟩ = some (.int .i64 ag0q1) := GY11.keep cY10_g0_2
            have cY11_g0_3 : Y11.cell? ⟨pg0, 3, none⟩ = some (.int .i64 ag0q2) := GY11.keep cY10_g0_3
            have cY11_g0_4 : Y11.cell? ⟨pg0, 4, none⟩ = some (.int .i64 ag0q3) := GY11.keep cY10_g0_4
            have cY11_g0_5 : Y11.cell? ⟨pg0, 5, none⟩ = some (.string ag0q4) := GY11.keep cY10_g0_5
            have cY11_g0_6 : Y11.cell? ⟨pg0, 6, none⟩ = some (.slice ag0q5 lg0q5 cg0q5) := GY11.keep cY10_g0_6
            have cY11_g0_7 : Y11.cell? ⟨pg0, 7, none⟩ = some (.slice ag0q6 lg0q6 cg0q6) := GY11.keep cY10_g0_7
            have cY11_g0_8 : Y11.cell? ⟨pg0, 8, none⟩ = some (.slice ag0q7 lg0q7 cg0q7) := GY11.keep cY10_g0_8
            have zY11_ag := blk cY11_ag_0
            have zY11_at := blk cY11_at_0
            have zY11_ax := blk cY11_ax_0
            have zY11_w0 := blk cY11_w0_0
            have zY11_x0 := blk cY11_x0_0
            have zY11_x1 := blk cY11_x1_0
            have zY11_g0 := blk cY11_g0_0
            have rY11_w0 := Lib.hid (Rd.gr rY10_w0.out GY11)
            have rY11_x0 := Lib.hid (Rd.gr rY10_x0.out GY11)
            have rY11_x1 := Lib.hid (Rd.gr rY10_x1.out GY11)
            have rY11_g0 := Lib.hid (Rd.gr rY10_g0.out GY11)
            clear cY10_ag_0 cY10_ag_1 cY10_at_0 cY10_ax_0 cY10_ax_1 cY10_w0_0 cY10_w0_1 cY10_w0_2 cY10_w0_3 cY10_w0_4 cY10_w0_5 cY10_w0_6 cY10_w0_7 cY10_w0_8 cY10_x0_0 cY10_x0_1 cY10_x1_0 cY10_g0_0 cY10_g0_1 cY10_g0_2 cY10_g0_3 cY10_g0_4 cY10_g0_5 cY10_g0_6 cY10_g0_7 cY10_g0_8
            clear s5 fr5
            go_wp2_with fail
            refine (markGrammar_any fx0 _ g 1 _ rY11_x0.out F_x0.out.1 (by omega) (by have := vGrammar_bd 1 g; omega)).mono ?_
            rintro e Y12 ⟨rfl, sY12, gY12⟩
            have bk1 := vGrammar_bd 1 g
            obtain ⟨k1, hk1⟩ : ∃ k, k = (vGrammar 1 g).2 := ⟨_, rfl⟩
            rw [← hk1] at bk1 ⊢
            clear hk1
            have rY12_m := Lib.hid sY12
            clear sY12
            have ZY12 : Y11.heap.size ≤ Y12.heap.size := Nat.le_trans (Gr.size ((by repeat (first | exact Gr.refl _ | apply Gr.ext | apply Gr.alloc | apply Gr.drew)) : Gr Y11 Y11)) gY12.size
            have GWY12 : Gr w Y12 := Gr.wr ((GWY11).trans (by repeat (first | exact Gr.refl _ | apply Gr.ext | apply Gr.alloc | apply Gr.drew))) gY12 (fun b hb => by have a1 := F_x0.out.2 b hb; omega)
            have cY12_ag_0 : Y12.cell? ⟨w.heap.size, 0, none⟩ = some (.slice gaq0 glq0 gcq0) := (World.cell?_of_block (gY12.block _ (blk (((by repeat (first | exact Gr.refl _ | apply Gr.ext | apply Gr.alloc | apply Gr.drew)) : Gr Y11 Y11).keep cY11_ag_0)) (fun h => by have a1 := F_x0.out.2 (w.heap.size) h; have a2 := L_x0.out (w.heap.size) h; omega))).trans (((by repeat (first | exact Gr.refl _ | apply Gr.ext | apply Gr.alloc | apply Gr.drew)) : Gr Y11 Y11).keep cY11_ag_0)
            have cY12_ag_1 : Y12.cell? ⟨w.heap.size, 1, none⟩ = some (.slice gaq1 glq1 gcq1) := (World.cell?_of_block (gY12.block _ (blk (((by repeat (first | exact Gr.refl _ | apply Gr.ext | apply Gr.alloc | apply Gr.drew)) : Gr Y11 Y11).keep cY11_ag_1)) (fun h => by have a1 := F_x0.out.2 (w.heap.size) h; have a2 := L_x0.out (w.heap.size) h; omega))).trans (((by repeat (first | exact Gr.refl _ | apply Gr.ext | apply Gr.alloc | apply Gr.drew)) : Gr Y11 Y11).keep cY11_ag_1)
            have cY12_at_0 : Y12.cell? ⟨w.heap.size + 1, 0, none⟩ = some (.slice taq0 tlq0 tcq0) := (World.cell?_of_block (gY12.block _ (blk (((by repeat (first | exact Gr.refl _ | apply Gr.ext | apply Gr.alloc | apply Gr.drew)) : Gr Y11 Y11).keep cY11_at_0)) (fun h => by have a1 := F_x0.out.2 (w.heap.size + 1) h; have a2 := L_x0.out (w.heap.size + 1) h; omega))).trans (((by repeat (first | exact Gr.refl _ | apply Gr.ext | apply Gr.alloc | apply Gr.drew)) : Gr Y11 Y11).keep cY11_at_0)
            have cY12_ax_0 : Y12.cell? ⟨w.heap.size + 1 + 1, 0, none⟩ = some (.int .i64 xaq0) := (World.cell?_of_block (gY12.block _ (blk (((by repeat (first | exact Gr.refl _ | apply Gr.ext | apply Gr.alloc | apply Gr.drew)) : Gr Y11 Y11).keep cY11_ax_0)) (fun h => by have a1 := F_x0.out.2 (w.heap.size + 1 + 1) h; have a2 := L_x0.out (w.heap.size + 1 + 1) h; omega))).trans (((by repeat (first | exact Gr.refl _ | apply Gr.ext | apply Gr.alloc | apply Gr.drew)) : Gr Y11 Y11).keep cY11_ax_0)
            have cY12_ax_1 : Y12.cell? ⟨w.heap.size + 1 + 1, 1, none⟩ = some (.string xaq1) := (World.cell?_of_block (gY12.block _ (blk (((by repeat (first | exact Gr.refl _ | apply Gr.ext | apply Gr.alloc | apply Gr.drew)) : Gr Y11 Y11).keep cY11_ax_1)) (fun h => by have a1 := F_x0.out.2 (w.heap.size + 1 + 1) h; have a2 := L_x0.out (w.heap.size + 1 + 1) h; omega))).trans (((by repeat (first | exact Gr.refl _ | apply Gr.ext | apply Gr.alloc | apply Gr.drew)) : Gr Y11 Y11).keep cY11_ax_1)
            have cY12_w0_0 : Y12.cell? ⟨pw0, 0, none⟩ = some (.int .i64 aw0q00) := (World.cell?_of_block (gY12.block _ (blk (((by repeat (first | exact Gr.refl _ | apply Gr.ext | apply Gr.alloc | apply Gr.drew)) : Gr Y11 Y11).keep cY11_w0_0)) (fun h => by have a1 := F_x0.out.2 (pw0) h; have a2 := L_x0.out (pw0) h; omega))).trans (((by repeat (first | exact Gr.refl _ | apply Gr.ext | apply Gr.alloc | apply Gr.drew)) : Gr Y11 Y11).keep cY11_w0_0)
            have cY12_w0_1 : Y12.cell? ⟨pw0, 1, none⟩ = some (.string aw0q01) := (World.cell?_of_block (gY12.block _ (blk (((by repeat (first | exact Gr.refl _ | apply Gr.ext | apply Gr.alloc | apply Gr.drew)) : Gr Y11 Y11).keep cY11_w0_1)) (fun h => by have a1 := F_x0.out.2 (pw0) h; have a2 := L_x0.out (pw0) h; omega))).trans (((by repeat (first | exact Gr.refl _ | apply Gr.ext | apply Gr.alloc | apply Gr.drew)) : Gr Y11 Y11).keep cY11_w0_1)
            have cY12_w0_2 : Y12.cell? ⟨pw0, 2, none⟩ = some (.int .i64 aw0q1) := (World.cell?_of_block (gY12.block _ (blk (((by repeat (first | exact Gr.refl _ | apply Gr.ext | apply Gr.alloc | apply Gr.drew)) : Gr Y11 Y11).keep cY11_w0_2)) (fun h => by have a1 := F_x0.out.2 (pw0) h; have a2 := L_x0.out (pw0) h; omega))).trans (((by repeat (first | exact Gr.refl _ | apply Gr.ext | apply Gr.alloc | apply Gr.drew)) : Gr Y11 Y11).keep cY11_w0_2)
            have cY12_w0_3 : Y12.cell? ⟨pw0, 3, none⟩ = some (.int .i64 aw0q2) := (World.cell?_of_block (gY12.block _ (blk (((by repeat (first | exact Gr.refl _ | apply Gr.ext | apply Gr.alloc | apply Gr.drew)) : Gr Y11 Y11).keep cY11_w0_3)) (fun h => by have a1 := F_x0.out.2 (pw0) h; have a2 := L_x0.out (pw0) h; omega))).trans (((by repeat (first | exact Gr.refl _ | apply Gr.ext | apply Gr.alloc | apply Gr.drew)) : Gr Y11 Y11).keep cY11_w0_3)
            have cY12_w0_4 : Y12.cell? ⟨pw0, 4, none⟩ = some (.int .i64 aw0q3) := (World.cell?_of_block (gY12.block _ (blk (((by repeat (first | exact Gr.refl _ | apply Gr.ext | apply Gr.alloc | apply Gr.drew)) : Gr Y11 Y11).keep cY11_w0_4)) (fun h => by have a1 := F_x0.out.2 (pw0) h; have a2 := L_x0.out (pw0) h; omega))).trans (((by repeat (first | exact Gr.refl _ | apply Gr.ext | apply Gr.alloc | apply Gr.drew)) : Gr Y11 Y11).keep cY11_w0_4)
            have cY12_w0_5 : Y12.cell? ⟨pw0, 5, none⟩ = some (.string aw0q4) := (World.cell?_of_block (gY12.block _ (blk (((by repeat (first | exact Gr.refl _ | apply Gr.ext | apply Gr.alloc | apply Gr.drew)) : Gr Y11 Y11).keep cY11_w0_5)) (fun h => by have a1 := F_x0.out.2 (pw0) h; have a2 := L_x0.out (pw0) h; omega))).trans (((by repeat (first | exact Gr.refl _ | apply Gr.ext | apply Gr.alloc | apply Gr.drew)) : Gr Y11 Y11).keep cY11_w0_5)
            have cY12_w0_6 : Y12.cell? ⟨pw0, 6, none⟩ = some (.slice aw0q5 lw0q5 cw0q5) := (World.cell?_of_block (gY12.block _ (blk (((by repeat (first | exact Gr.refl _ | apply Gr.ext | apply Gr.alloc | apply Gr.drew)) : Gr Y11 Y11).keep cY11_w0_6)) (fun h => by have a1 := F_x0.out.2 (pw0) h; have a2 := L_x0.out (pw0) h; omega))).trans (((by repeat (first | exact Gr.refl _ | apply Gr.ext | apply Gr.alloc | apply Gr.drew)) : Gr Y11 Y11).keep cY11_w0_6)
            have cY12_w0_7 : Y12.cell? ⟨pw0, 7, none⟩ = some (.slice aw0q6 lw0q6 cw0q6) := (World.cell?_of_block (gY12.block _ (blk (((by repeat (first | exact Gr.refl _ | apply Gr.ext | apply Gr.alloc | apply Gr.drew)) : Gr Y11 Y11).keep cY11_w0_7)) (fun h => by have a1 := F_x0.out.2 (pw0) h; have a2 := L_x0.out (pw0) h; omega))).trans (((by repeat (first | exact Gr.refl _ | apply Gr.ext | apply Gr.alloc | apply Gr.drew)) : Gr Y11 Y11).keep cY11_w0_7)
            have cY12_w0_8 : Y12.cell? ⟨pw0, 8, none⟩ = some (.slice aw0q7 lw0q7 cw0q7) := (World.cell?_of_block (gY12.block _ (blk (((by repeat (first | exact Gr.refl _ | apply Gr.ext | apply Gr.alloc | apply Gr.drew)) : Gr Y11 Y11).keep cY11_w0_8)) (fun h => by have a1 := F_x0.out.2 (pw0) h; have a2 := L_x0.out (pw0) h; omega))).trans (((by repeat (first | exact Gr.refl _ | apply Gr.ext | apply Gr.alloc | apply Gr.drew)) : Gr Y11 Y11).keep cY11_w0_8)
            have cY12_x0_0 : Y12.cell? ⟨Y5.heap.size, 0, none⟩ = some (.slice ax0q0 lx0q0 cx0q0) := (World.cell?_of_block (gY12.block _ (blk (((by repeat (first | exact Gr.refl _ | apply Gr.ext | apply Gr.alloc | apply Gr.drew)) : Gr Y11 Y11).keep cY11_x0_0)) (fun h => by have a1 := F_x0.out.2 (Y5.heap.size) h; have a2 := L_x0.out (Y5.heap.size) h; omega))).trans (((by repeat (first | exact Gr.refl _ | apply Gr.ext | apply Gr.alloc | apply Gr.drew)) : Gr Y11 Y11).keep cY11_x0_0)
            have cY12_x0_1 : Y12.cell? ⟨Y5.heap.size, 1, none⟩ = some (.slice ax0q1 lx0q1 cx0q1) := (World.cell?_of_block (gY12.block _ (blk (((by repeat (first | exact Gr.refl _ | apply Gr.ext | apply Gr.alloc | apply Gr.drew)) : Gr Y11 Y11).keep cY11_x0_1)) (fun h => by have a1 := F_x0.out.2 (Y5.heap.size) h; have a2 := L_x0.out (Y5.heap.size) h; omega))).trans (((by repeat (first | exact Gr.refl _ | apply Gr.ext | apply Gr.alloc | apply Gr.drew)) : Gr Y11 Y11).keep cY11_x0_1)
            have cY12_x1_0 : Y12.cell? ⟨Y6.heap.size, 0, none⟩ = some (.slice ax1q0 lx1q0 cx1q0) := (World.cell?_of_block (gY12.block _ (blk (((by repeat (first | exact Gr.refl _ | apply Gr.ext | apply Gr.alloc | apply Gr.drew)) : Gr Y11 Y11).keep cY11_x1_0)) (fun h => by have a1 := F_x0.out.2 (Y6.heap.size) h; have a2 := L_x0.out (Y6.heap.size) h; omega))).trans (((by repeat (first | exact Gr.refl _ | apply Gr.ext | apply Gr.alloc | apply Gr.drew)) : Gr Y11 Y11).keep cY11_x1_0)
            have cY12_g0_0 : Y12.cell? ⟨pg0, 0, none⟩ = some (.int .i64 ag0q00) := (World.cell?_of_block (gY12.block _ (blk (((by repeat (first | exact Gr.refl _ | apply Gr.ext | apply Gr.alloc | apply Gr.drew)) : Gr Y11 Y11).keep cY11_g0_0)) (fun h => by have a1 := F_x0.out.2 (pg0) h; have a2 := L_x0.out (pg0) h; omega))).trans (((by repeat (first | exact Gr.refl _ | apply Gr.ext | apply Gr.alloc | apply Gr.drew)) : Gr Y11 Y11).keep cY11_g0_0)
            have cY12_g0_1 : Y12.cell? ⟨pg0, 1, none⟩ = some (.string ag0q01) := (World.cell?_of_block (gY12.block _ (blk (((by repeat (first | exact Gr.refl _ | apply Gr.ext | apply Gr.alloc | apply Gr.drew)) : Gr Y11 Y11).keep cY11_g0_1)) (fun h => by have a1 := F_x0.out.2 (pg0) h; have a2 := L_x0.out (pg0) h; omega))).trans (((by repeat (first | exact Gr.refl _ | apply Gr.ext | apply Gr.alloc | apply Gr.drew)) : Gr Y11 Y11).keep cY11_g0_1)
            have cY12_g0_2 : Y12.cell? ⟨pg0, 2, none⟩ = some (.int .i64 ag0q1) := (World.cell?_of_block (gY12.block _ (blk (((by repeat (first | exact Gr.refl _ | apply Gr.ext | apply Gr.alloc | apply Gr.drew)) : Gr Y11 Y11).keep cY11_g0_2)) (fun h => by have a1 := F_x0.out.2 (pg0) h; have a2 := L_x0.out (pg0) h; omega))).trans (((by repeat (first | exact Gr.refl _ | apply Gr.ext | apply Gr.alloc | apply Gr.drew)) : Gr Y11 Y11).keep cY11_g0_2)
            have cY12_g0_3 : Y12.cell? ⟨pg0, 3, none⟩ = some (.int .i64 ag0q2) := (World.cell?_of_block (gY12.block _ (blk (((by repeat (first | exact Gr.refl _ | apply Gr.ext | apply Gr.alloc | apply Gr.drew)) : Gr Y11 Y11).keep cY11_g0_3)) (fun h => by have a1 := F_x0.out.2 (pg0) h; have a2 := L_x0.out (pg0) h; omega))).trans (((by repeat (first | exact Gr.refl _ | apply Gr.ext | apply Gr.alloc | apply Gr.drew)) : Gr Y11 Y11).keep cY11_g0_3)
            have cY12_g0_4 : Y12.cell? ⟨pg0, 4, none⟩ = some (.int .i64 ag0q3) := (World.cell?_of_block (gY12.block _ (blk (((by repeat (first | exact Gr.refl _ | apply Gr.ext | apply Gr.alloc | apply Gr.drew)) : Gr Y11 Y11).keep cY11_g0_4)) (fun h => by have a1 := F_x0.out.2 (pg0) h; have a2 := L_x0.out (pg0) h; omega))).trans (((by repeat (first | exact Gr.refl _ | apply Gr.ext | apply Gr.alloc | apply Gr.drew)) : Gr Y11 Y11).keep cY11_g0_4)
            have cY12_g0_5 : Y12.cell? ⟨pg0, 5, none⟩ = some (.string ag0q4) := (World.cell?_of_block (gY12.block _ (blk (((by repeat (first | exact Gr.refl _ | apply Gr.ext | apply Gr.alloc | apply Gr.drew)) : Gr Y11 Y11).keep cY11_g0_5)) (fun h => by have a1 := F_x0.out.2 (pg0) h; have a2 := L_x0.out (pg0) h; omega))).trans (((by repeat (first | exact Gr.refl _ | apply Gr.ext | apply Gr.alloc | apply Gr.drew)) : Gr Y11 Y11).keep cY11_g0_5)
            have cY12_g0_6 : Y12.cell? ⟨pg0, 6, none⟩ = some (.slice ag0q5 lg0q5 cg0q5) := (World.cell?_of_block (gY12.block _ (blk (((by repeat (first | exact Gr.refl _ | apply Gr.ext | apply Gr.alloc | apply Gr.drew)) : Gr Y11 Y11).keep cY11_g0_6)) (fun h => by have a1 := F_x0.out.2 (pg0) h; have a2 := L_x0.out (pg0) h; omega))).trans (((by repeat (first | exact Gr.refl _ | apply Gr.ext | apply Gr.alloc | apply Gr.drew)) : Gr Y11 Y11).keep cY11_g0_6)
            have cY12_g0_7 : Y12.cell? ⟨pg0, 7, none⟩ = some (.slice ag0q6 lg0q6 cg0q6) := (World.cell?_of_block (gY12.block _ (blk (((by repeat (first | exact Gr.refl _ | apply Gr.ext | apply Gr.alloc | apply Gr.drew)) : Gr Y11 Y11).keep cY11_g0_7)) (fun h => by have a1 := F_x0.out.2 (pg0) h; have a2 := L_x0.out (pg0) h; omega))).trans (((by repeat (first | exact Gr.refl _ | apply Gr.ext | apply Gr.alloc | apply Gr.drew)) : Gr Y11 Y11).keep cY11_g0_7)
            have cY12_g0_8 : Y12.cell? ⟨pg0, 8, none⟩ = some (.slice ag0q7 lg0q7 cg0q7) := (World.cell?_of_block (gY12.block _ (blk (((by repeat (first | exact Gr.refl _ | apply Gr.ext | apply Gr.alloc | apply Gr.drew)) : Gr Y11 Y11).keep cY11_g0_8)) (fun h => by have a1 := F_x0.out.2 (pg0) h; have a2 := L_x0.out (pg0) h; omega))).trans (((by repeat (first | exact Gr.refl _ | apply Gr.ext | apply Gr.alloc | apply Gr.drew)) : Gr Y11 Y11).keep cY11_g0_8)
            have zY12_ag := blk cY12_ag_0
            have zY12_at := blk cY12_at_0
            have zY12_ax := blk cY12_ax_0
            have zY12_w0 := blk cY12_w0_0
            have zY12_x0 := blk cY12_x0_0
            have zY12_x1 := blk cY12_x1_0
            have zY12_g0 := blk cY12_g0_0
            have rY12_w0 := Lib.hid (Rd.wr (Rd.gr rY11_w0.out ((by repeat (first | exact Gr.refl _ | apply Gr.ext | apply Gr.alloc | apply Gr.drew)) : Gr Y11 Y11)) gY12 (fun b h1 h2 => by have a1 := F_x0.out.2 _ h2; have a2 := L_x0.out _ h2; have a3 := F_w0.out.2 _ h1; have a4 := L_w0.out _ h1; omega))
            have rY12_x1 := Lib.hid (Rd.wr (Rd.gr rY11_x1.out ((by repeat (first | exact Gr.refl _ | apply Gr.ext | apply Gr.alloc | apply Gr.drew)) : Gr Y11 Y11)) gY12 (fun b h1 h2 => by have a1 := F_x0.out.2 _ h2; have a2 := L_x0.out _ h2; have a3 := F_x1.out.2 _ h1; have a4 := L_x1.out _ h1; omega))
            have rY12_g0 := Lib.hid (Rd.wr (Rd.gr rY11_g0.out ((by repeat (first | exact Gr.refl _ | apply Gr.ext | apply Gr.alloc | apply Gr.drew)) : Gr Y11 Y11)) gY12 (fun b h1 h2 => by have a1 := F_x0.out.2 _ h2; have a2 := L_x0.out _ h2; have a3 := F_g0.out.2 _ h1; have a4 := L_g0.out _ h1; omega))
            clear cY11_ag_0 cY11_ag_1 cY11_at_0 cY11_ax_0 cY11_ax_1 cY11_w0_0 cY11_w0_1 cY11_w0_2 cY11_w0_3 cY11_w0_4 cY11_w0_5 cY11_w0_6 cY11_w0_7 cY11_w0_8 cY11_x0_0 cY11_x0_1 cY11_x1_0 cY11_g0_0 cY11_g0_1 cY11_g0_2 cY11_g0_3 cY11_g0_4 cY11_g0_5 cY11_g0_6 cY11_g0_7 cY11_g0_8
            go_wp2_with fail
            refine (markTree_any fx1 _ t k1 _ rY12_x1.out F_x1.out.1 (by omega) (by have := vTree_bd k1 t; omega)).mono ?_
            rintro e Y13 ⟨rfl, sY13, gY13⟩
            have bk2 := vTree_bd k1 t
            obtain ⟨k2, hk2⟩ : ∃ k, k = (vTree k1 t).2 := ⟨_, rfl⟩
            rw [← hk2] at bk2 ⊢
            clear hk2
            have rY13_m := Lib.hid sY13
            clear sY13
            have ZY13 : Y12.heap.size ≤ Y13.heap.size := Nat.le_trans (Gr.size ((by repeat (first | exact Gr.refl _ | apply Gr.ext | apply Gr.alloc | apply Gr.drew)) : Gr Y12 Y12)) gY13.size
            have GWY13 : Gr w Y13 := Gr.wr ((GWY12).trans (by repeat (first | exact Gr.refl _ | apply Gr.ext | apply Gr.alloc | apply Gr.drew))) gY13 (fun b hb => by have a1 := F_x1.out.2 b hb; omega)
            have cY13_ag_0 : Y13.cell? ⟨w.heap.size, 0, none⟩ = some (.slice gaq0 glq0 gcq0) := (World.cell?_of_block (gY13.block _ (blk (((by repeat (first | exact Gr.refl _ | apply Gr.ext | apply Gr.alloc | apply Gr.drew)) : Gr Y12 Y12).keep cY12_ag_0)) (fun h => by have a1 := F_x1.out.2 (w.heap.size) h; have a2 := L_x1.out (w.heap.size) h; omega))).trans (((by repeat (first | exact Gr.refl _ | apply Gr.ext | apply Gr.alloc | apply Gr.drew)) : Gr Y12 Y12).keep cY12_ag_0)
            have cY13_ag_1 : Y13.cell? ⟨w.heap.size, 1, none⟩ = some (.slice gaq1 glq1 gcq1) := (World.cell?_of_block (gY13.block _ (blk (((by repeat (first | exact Gr.refl _ | apply Gr.ext | apply Gr.alloc | apply Gr.drew)) : Gr Y12 Y12).keep cY12_ag_1)) (fun h => by have a1 := F_x1.out.2 (w.heap.size) h; have a2 := L_x1.out (w.heap.size) h; omega))).trans (((by repeat (first | exact Gr.refl _ | apply Gr.ext | apply Gr.alloc | apply Gr.drew)) : Gr Y12 Y12).keep cY12_ag_1)
            have cY13_at_0 : Y13.cell? ⟨w.heap.size + 1, 0, none⟩ = some (.slice taq0 tlq0 tcq0) := (World.cell?_of_block (gY13.block _ (blk (((by repeat (first | exact Gr.refl _ | apply Gr.ext | apply Gr.alloc | apply Gr.drew)) : Gr Y12 Y12).keep cY12_at_0)) (fun h => by have a1 := F_x1.out.2 (w.heap.size + 1) h; have a2 := L_x1.out (w.heap.size + 1) h; omega))).trans (((by repeat (first | exact Gr.refl _ | apply Gr.ext | apply Gr.alloc | apply Gr.drew)) : Gr Y12 Y12).keep cY12_at_0)
            have cY13_ax_0 : Y13.cell? ⟨w.heap.size + 1 + 1, 0, none⟩ = some (.int .i64 xaq0) := (World.cell?_of_block (gY13.block _ (blk (((by repeat (first | exact Gr.refl _ | apply Gr.ext | apply Gr.alloc | apply Gr.drew)) : Gr Y12 Y12).keep cY12_ax_0)) (fun h => by have a1 := F_x1.out.2 (w.heap.size + 1 + 1) h; have a2 := L_x1.out (w.heap.size + 1 + 1) h; omega))).trans (((by repeat (first | exact Gr.refl _ | apply Gr.ext | apply Gr.alloc | apply Gr.drew)) : Gr Y12 Y12).keep cY12_ax_0)
            have cY13_ax_1 : Y13.cell? ⟨w.heap.size + 1 + 1, 1, none⟩ = some (.string xaq1) := (World.cell?_of_block (gY13.block _ (blk (((by repeat (first | exact Gr.refl _ | apply Gr.ext | apply Gr.alloc | apply Gr.drew)) : Gr Y12 Y12).keep cY12_ax_1)) (fun h => by have a1 := F_x1.out.2 (w.heap.size + 1 + 1) h; have a2 := L_x1.out (w.heap.size + 1 + 1) h; omega))).trans (((by repeat (first | exact Gr.refl _ | apply Gr.ext | apply Gr.alloc | apply Gr.drew)) : Gr Y12 Y12).keep cY12_ax_1)
            have cY13_w0_0 : Y13.cell? ⟨pw0, 0, none⟩ = some (.int .i64 aw0q00) := (World.cell?_of_block (gY13.block _ (blk (((by repeat (first | exact Gr.refl _ | apply Gr.ext | apply Gr.alloc | apply Gr.drew)) : Gr Y12 Y12).keep cY12_w0_0)) (fun h => by have a1 := F_x1.out.2 (pw0) h; have a2 := L_x1.out (pw0) h; omega))).trans (((by repeat (first | exact Gr.refl _ | apply Gr.ext | apply Gr.alloc | apply Gr.drew)) : Gr Y12 Y12).keep cY12_w0_0)
            have cY13_w0_1 : Y13.cell? ⟨pw0, 1, none⟩ = some (.string aw0q01) := (World.cell?_of_block (gY13.block _ (blk (((by repeat (first | exact Gr.refl _ | apply Gr.ext | apply Gr.alloc | apply Gr.drew)) : Gr Y12 Y12).keep cY12_w0_1)) (fun h => by have a1 := F_x1.out.2 (pw0) h; have a2 := L_x1.out (pw0) h; omega))).trans (((by repeat (first | exact Gr.refl _ | apply Gr.ext | apply Gr.alloc | apply Gr.drew)) : Gr Y12 Y12).keep cY12_w0_1)
            have cY13_w0_2 : Y13.cell? ⟨pw0, 2, none⟩ = some (.int .i64 aw0q1) := (World.cell?_of_block (gY13.block _ (blk (((by repeat (first | exact Gr.refl _ | apply Gr.ext | apply Gr.alloc | apply Gr.drew)) : Gr Y12 Y12).keep cY12_w0_2)) (fun h => by have a1 := F_x1.out.2 (pw0) h; have a2 := L_x1.out (pw0) h; omega))).trans (((by repeat (first | exact Gr.refl _ | apply Gr.ext | apply Gr.alloc | apply Gr.drew)) : Gr Y12 Y12).keep cY12_w0_2)
            have cY13_w0_3 : Y13.cell? ⟨pw0, 3, none⟩ = some (.int .i64 aw0q2) := (World.cell?_of_block (gY13.block _ (blk (((by repeat (first | exact Gr.refl _ | apply Gr.ext | apply Gr.alloc | apply Gr.drew)) : Gr Y12 Y12).keep cY12_w0_3)) (fun h => by have a1 := F_x1.out.2 (pw0) h; have a2 := L_x1.out (pw0) h; omega))).trans (((by repeat (first | exact Gr.refl _ | apply Gr.ext | apply Gr.alloc | apply Gr.drew)) : Gr Y12 Y12).keep cY12_w0_3)
            have cY13_w0_4 : Y13.cell? ⟨pw0, 4, none⟩ = some (.int .i64 aw0q3) := (World.cell?_of_block (gY13.block _ (blk (((by repeat (first | exact Gr.refl _ | apply Gr.ext | apply Gr.alloc | apply Gr.drew)) : Gr Y12 Y12).keep cY12_w0_4)) (fun h => by have a1 := F_x1.out.2 (pw0) h; have a2 := L_x1.out (pw0) h; omega))).trans (((by repeat (first | exact Gr.refl _ | apply Gr.ext | apply Gr.alloc | apply Gr.drew)) : Gr Y12 Y12).keep cY12_w0_4)
            have cY13_w0_5 : Y13.cell? ⟨pw0, 5, none⟩ = some (.string aw0q4) := (World.cell?_of_block (gY13.block _ (blk (((by repeat (first | exact Gr.refl _ | apply Gr.ext | apply Gr.alloc | apply Gr.drew)) : Gr Y12 Y12).keep cY12_w0_5)) (fun h => by have a1 := F_x1.out.2 (pw0) h; have a2 := L_x1.out (pw0) h; omega))).trans (((by repeat (first | exact Gr.refl _ | apply Gr.ext | apply Gr.alloc | apply Gr.drew)) : Gr Y12 Y12).keep cY12_w0_5)
            have cY13_w0_6 : Y13.cell? ⟨pw0, 6, none⟩ = some (.slice aw0q5 lw0q5 cw0q5) := (World.cell?_of_block (gY13.block _ (blk (((by repeat (first | exact Gr.refl _ | apply Gr.ext | apply Gr.alloc | apply Gr.drew)) : Gr Y12 Y12).keep cY12_w0_6)) (fun h => by have a1 := F_x1.out.2 (pw0) h; have a2 := L_x1.out (pw0) h; omega))).trans (((by repeat (first | exact Gr.refl _ | apply Gr.ext | apply Gr.alloc | apply Gr.drew)) : Gr Y12 Y12).keep cY12_w0_6)
            have cY13_w0_7 : Y13.cell? ⟨pw0, 7, none⟩ = some (.slice aw0q6 lw0q6 cw0q6) := (World.cell?_of_block (gY13.block _ (blk (((by repeat (first | exact Gr.refl _ | apply Gr.ext | apply Gr.alloc | apply Gr.drew)) : Gr Y12 Y12).keep cY12_w0_7)) (fun h => by have a1 := F_x1.out.2 (pw0) h; have a2 := L_x1.out (pw0) h; omega))).trans (((by repeat (first | exact Gr.refl _ | apply Gr.ext | apply Gr.alloc | apply Gr.drew)) : Gr Y12 Y12).keep cY12_w0_7)
            have cY13_w0_8 : Y13.cell? ⟨pw0, 8, none⟩ = some (.slice aw0q7 lw0q7 cw0q7) := (World.cell?_of_block (gY13.block _ (blk (((by repeat (first | exact Gr.refl _ | apply Gr.ext | apply Gr.alloc | apply Gr.drew)) : Gr Y12 Y12).keep cY12_w0_8)) (fun h => by have a1 := F_x1.out.2 (pw0) h; have a2 := L_x1.out (pw0) h; omega))).trans (((by repeat (first | exact Gr.refl _ | apply Gr.ext | apply Gr.alloc | apply Gr.drew)) : Gr Y12 Y12).keep cY12_w0_8)
            have cY13_x0_0 : Y13.cell? ⟨Y5.heap.size, 0, none⟩ = some (.slice ax0q0 lx0q0 cx0q0) := (World.cell?_of_block (gY13.block _ (blk (((by repeat (first | exact Gr.refl _ | apply Gr.ext | apply Gr.alloc | apply Gr.drew)) : Gr Y12 Y12).keep cY12_x0_0)) (fun h => by have a1 := F_x1.out.2 (Y5.heap.size) h; have a2 := L_x1.out (Y5.heap.size) h; omega))).trans (((by repeat (first | exact Gr.refl _ | apply Gr.ext | apply Gr.alloc | apply Gr.drew)) : Gr Y12 Y12).keep cY12_x0_0)
            have cY13_x0_1 : Y13.cell? ⟨Y5.heap.size, 1, none⟩ = some (.slice ax0q1 lx0q1 cx0q1) := (World.cell?_of_block (gY13.block _ (blk (((by repeat (first | exact Gr.refl _ | apply Gr.ext | apply Gr.alloc | apply Gr.drew)) : Gr Y12 Y12).keep cY12_x0_1)) (fun h => by have a1 := F_x1.out.2 (Y5.heap.size) h; have a2 := L_x1.out (Y5.heap.size) h; omega))).trans (((by repeat (first | exact Gr.refl _ | apply Gr.ext | apply Gr.alloc | apply Gr.drew)) : Gr Y12 Y12).keep cY12_x0_1)
            have cY13_x1_0 : Y13.cell? ⟨Y6.heap.size, 0, none⟩ = some (.slice ax1q0 lx1q0 cx1q0) := (World.cell?_of_block (gY13.block _ (blk (((by repeat (first | exact Gr.refl _ | apply Gr.ext | apply Gr.alloc | apply Gr.drew)) : Gr Y12 Y12).keep cY12_x1_0)) (fun h => by have a1 := F_x1.out.2 (Y6.heap.size) h; have a2 := L_x1.out (Y6.heap.size) h; omega))).trans (((by repeat (first | exact Gr.refl _ | apply Gr.ext | apply Gr.alloc | apply Gr.drew)) : Gr Y12 Y12).keep cY12_x1_0)
            have cY13_g0_0 : Y13.cell? ⟨pg0, 0, none⟩ = some (.int .i64 ag0q00) := (World.cell?_of_block (gY13.block _ (blk (((by repeat (first | exact Gr.refl _ | apply Gr.ext | apply Gr.alloc | apply Gr.drew)) : Gr Y12 Y12).keep cY12_g0_0)) (fun h => by have a1 := F_x1.out.2 (pg0) h; have a2 := L_x1.out (pg0) h; omega))).trans (((by repeat (first | exact Gr.refl _ | apply Gr.ext | apply Gr.alloc | apply Gr.drew)) : Gr Y12 Y12).keep cY12_g0_0)
            have cY13_g0_1 : Y13.cell? ⟨pg0, 1, none⟩ = some (.string ag0q01) := (World.cell?_of_block (gY13.block _ (blk (((by repeat (first | exact Gr.refl _ | apply Gr.ext | apply Gr.alloc | apply Gr.drew)) : Gr Y12 Y12).keep cY12_g0_1)) (fun h => by have a1 := F_x1.out.2 (pg0) h; have a2 := L_x1.out (pg0) h; omega))).trans (((by repeat (first | exact Gr.refl _ | apply Gr.ext | apply Gr.alloc | apply Gr.drew)) : Gr Y12 Y12).keep cY12_g0_1)
            have cY13_g0_2 : Y13.cell? ⟨pg0, 2, none⟩ = some (.int .i64 ag0q1) := (World.cell?_of_block (gY13.block _ (blk (((by repeat (first | exact Gr.refl _ | apply Gr.ext | apply Gr.alloc | apply Gr.drew)) : Gr Y12 Y12).keep cY12_g0_2)) (fun h => by have a1 := F_x1.out.2 (pg0) h; have a2 := L_x1.out (pg0) h; omega))).trans (((by repeat (first | exact Gr.refl _ | apply Gr.ext | apply Gr.alloc | apply Gr.drew)) : Gr Y12 Y12).keep cY12_g0_2)
            have cY13_g0_3 : Y13.cell? ⟨pg0, 3, none⟩ = some (.int .i64 ag0q2) := (World.cell?_of_block (gY13.block _ (blk (((by repeat (first | exact Gr.refl _ | apply Gr.ext | apply Gr.alloc | apply Gr.drew)) : Gr Y12 Y12).keep cY12_g0_3)) (fun h => by have a1 := F_x1.out.2 (pg0) h; have a2 := L_x1.out (pg0) h; omega))).trans (((by repeat (first | exact Gr.refl _ | apply Gr.ext | apply Gr.alloc | apply Gr.drew)) : Gr Y12 Y12).keep cY12_g0_3)
            have cY13_g0_4 : Y13.cell? ⟨pg0, 4, none⟩ = some (.int .i64 ag0q3) := (World.cell?_of_block (gY13.block _ (blk (((by repeat (first | exact Gr.refl _ | apply Gr.ext | apply Gr.alloc | apply Gr.drew)) : Gr Y12 Y12).keep cY12_g0_4)) (fun h => by have a1 := F_x1.out.2 (pg0) h; have a2 := L_x1.out (pg0) h; omega))).trans (((by repeat (first | exact Gr.refl _ | apply Gr.ext | apply Gr.alloc | apply Gr.drew)) : Gr Y12 Y12).keep cY12_g0_4)
            have cY13_g0_5 : Y13.cell? ⟨pg0, 5, none⟩ = some (.string ag0q4) := (World.cell?_of_block (gY13.block _ (blk (((by repeat (first | exact Gr.refl _ | apply Gr.ext | apply Gr.alloc | apply Gr.drew)) : Gr Y12 Y12).keep cY12_g0_5)) (fun h => by have a1 := F_x1.out.2 (pg0) h; have a2 := L_x1.out (pg0) h; omega))).trans (((by repeat (first | exact Gr.refl _ | apply Gr.ext | apply Gr.alloc | apply Gr.drew)) : Gr Y12 Y12).keep cY12_g0_5)
            have cY13_g0_6 : Y13.cell? ⟨pg0, 6, none⟩ = some (.slice ag0q5 lg0q5 cg0q5) := (World.cell?_of_block (gY13.block _ (blk (((by repeat (first | exact Gr.refl _ | apply Gr.ext | apply Gr.alloc | apply Gr.drew)) : Gr Y12 Y12).keep cY12_g0_6)) (fun h => by have a1 := F_x1.out.2 (pg0) h; have a2 := L_x1.out (pg0) h; omega))).trans (((by repeat (first | exact Gr.refl _ | apply Gr.ext | apply Gr.alloc | apply Gr.drew)) : Gr Y12 Y12).keep cY12_g0_6)
            have cY13_g0_7 : Y13.cell? ⟨pg0, 7, none⟩ = some (.slice ag0q6 lg0q6 cg0q6) := (World.cell?_of_block (gY13.block _ (blk (((by repeat (first | exact Gr.refl _ | apply Gr.ext | apply Gr.alloc | apply Gr.drew)) : Gr Y12 Y12).keep cY12_g0_7)) (fun h => by have a1 := F_x1.out.2 (pg0) h; have a2 := L_x1.out (pg0) h; omega))).trans (((by repeat (first | exact Gr.refl _ | apply Gr.ext | apply Gr.alloc | apply Gr.drew)) : Gr Y12 Y12).keep cY12_g0_7)
            have cY13_g0_8 : Y13.cell? ⟨pg0, 8, none⟩ = some (.slice ag0q7 lg0q7 cg0q7) := (World.cell?_of_block (gY13.block _ (blk (((by repeat (first | exact Gr.refl _ | apply Gr.ext | apply Gr.alloc | apply Gr.drew)) : Gr Y12 Y12).keep cY12_g0_8)) (fun h => by have a1 := F_x1.out.2 (pg0) h; have a2 := L_x1.out (pg0) h; omega))).trans (((by repeat (first | exact Gr.refl _ | apply Gr.ext | apply Gr.alloc | apply Gr.drew)) : Gr Y12 Y12).keep cY12_g0_8)
            have zY13_ag := blk cY13_ag_0
            have zY13_at := blk cY13_at_0
            have zY13_ax := blk cY13_ax_0
            have zY13_w0 := blk cY13_w0_0
            have zY13_x0 := blk cY13_x0_0
            have zY13_x1 := blk cY13_x1_0
            have zY13_g0 := blk cY13_g0_0
            have rY13_w0 := Lib.hid (Rd.wr (Rd.gr rY12_w0.out ((by repeat (first | exact Gr.refl _ | apply Gr.ext | apply Gr.alloc | apply Gr.drew)) : Gr Y12 Y12)) gY13 (fun b h1 h2 => by have a1 := F_x1.out.2 _ h2; have a2 := L_x1.out _ h2; have a3 := F_w0.out.2 _ h1; have a4 := L_w0.out _ h1; omega))
            have rY13_g0 := Lib.hid (Rd.wr (Rd.gr rY12_g0.out ((by repeat (first | exact Gr.refl _ | apply Gr.ext | apply Gr.alloc | apply Gr.drew)) : Gr Y12 Y12)) gY13 (fun b h1 h2 => by have a1 := F_x1.out.2 _ h2; have a2 := L_x1.out _ h2; have a3 := F_g0.out.2 _ h1; have a4 := L_g0.out _ h1; omega))
            clear cY12_ag_0 cY12_ag_1 cY12_at_0 cY12_ax_0 cY12_ax_1 cY12_w0_0 cY12_w0_1 cY12_w0_2 cY12_w0_3 cY12_w0_4 cY12_w0_5 cY12_w0_6 cY12_w0_7 cY12_w0_8 cY12_x0_0 cY12_x0_1 cY12_x1_0 cY12_g0_0 cY12_g0_1 cY12_g0_2 cY12_g0_3 cY12_g0_4 cY12_g0_5 cY12_g0_6 cY12_g0_7 cY12_g0_8
            go_wp2_with fail
            refine (eqEntry_any _ _ _ _ yv yv _ rY13_g0.out rY13_w0.out).mono ?_
            rintro e Y14 ⟨rfl, gY14⟩
            rw [decide_eq_true rfl]
            have GY14 : Gr Y13 Y14 := ((by repeat (first | exact Gr.refl _ | apply Gr.ext | apply Gr.alloc | apply Gr.drew)) : Gr Y13 Y13).trans gY14
            have GWY14 : Gr w Y14 := GWY13.trans GY14
            have ZY14 : Y13.heap.size ≤ Y14.heap.size := GY14.size
            have cY14_ag_0 : Y14.cell? ⟨w.heap.size, 0, none⟩ = some (.slice gaq0 glq0 gcq0) := GY14.keep cY13_ag_0
            have cY14_ag_1 : Y14.cell? ⟨w.heap.size, 1, none⟩ = some (.slice gaq1 glq1 gcq1) := GY14.keep cY13_ag_1
            have cY14_at_0 : Y14.cell? ⟨w.heap.size + 1, 0, none⟩ = some (.slice taq0 tlq0 tcq0) := GY14.keep cY13_at_0
            have cY14_ax_0 : Y14.cell? ⟨w.heap.size + 1 + 1, 0, none⟩ = some (.int .i64 xaq0) := GY14.keep cY13_ax_0
            have cY14_ax_1 : Y14.cell? ⟨w.heap.size + 1 + 1, 1, none⟩ = some (.string xaq1) := GY14.keep cY13_ax_1
            have cY14_w0_0 : Y14.cell? ⟨pw0, 0, none⟩ = some (.int .i64 aw0q00) := GY14.keep cY13_w0_0
            have cY14_w0_1 : Y14.cell? ⟨pw0, 1, none⟩ = some (.string aw0q01) := GY14.keep cY13_w0_1
            have cY14_w0_2 : Y14.cell? ⟨pw0, 2, none⟩ = some (.int .i64 aw0q1) := GY14.keep cY13_w0_2
            have cY14_w0_3 : Y14.cell? ⟨pw0, 3, none⟩ = some (.int .i64 aw0q2) := GY14.keep cY13_w0_3
            have cY14_w0_4 : Y14.cell? ⟨pw0, 4, none⟩ = some (.int .i64 aw0q3) := GY14.keep cY13_w0_4
            have cY14_w0_5 : Y14.cell? ⟨pw0, 5, none⟩ = some (.string aw0q4) := GY14.keep cY13_w0_5
            have cY14_w0_6 : Y14.cell? ⟨pw0, 6, none⟩ = some (.slice aw0q5 lw0q5 cw0q5) := GY14.keep cY13_w0_6
            have cY14_w0_7 : Y14.cell? ⟨pw0, 7, none⟩ = some (.slice aw0q6 lw0q6 cw0q6) := GY14.keep cY13_w0_7
            have cY14_w0_8 : Y14.cell? ⟨pw0, 8, none⟩ = some (.slice aw0q7 lw0q7 cw0q7) := GY14.keep cY13_w0_8
            have cY14_x0_0 : Y14.cell? ⟨Y5.heap.size, 0, none⟩ = some (.slice ax0q0 lx0q0 cx0q0) := GY14.keep cY13_x0_0
            have cY14_x0_1 : Y14.cell? ⟨Y5.heap.size, 1, none⟩ = some (.slice ax0q1 lx0q1 cx0q1) := GY14.keep cY13_x0_1
            have cY14_x1_0 : Y14.cell? ⟨Y6.heap.size, 0, none⟩ = some (.slice ax1q0 lx1q0 cx1q0) := GY14.keep cY13_x1_0
            have cY14_g0_0 : Y14.cell? ⟨pg0, 0, none⟩ = some (.int .i64 ag0q00) := GY14.keep cY13_g0_0
            have cY14_g0_1 : Y14.cell? ⟨pg0, 1, none⟩ = some (.string ag0q01) := GY14.keep cY13_g0_1
            have cY14_g0_2 : Y14.cell? ⟨pg0, 2, none⟩ = some (.int .i64 ag0q1) := GY14.keep cY13_g0_2
            have cY14_g0_3 : Y14.cell? ⟨pg0, 3, none⟩ = some (.int .i64 ag0q2) := GY14.keep cY13_g0_3
            have cY14_g0_4 : Y14.cell? ⟨pg0, 4, none⟩ = some (.int .i64 ag0q3) := GY14.keep cY13_g0_4
            have cY14_g0_5 : Y14.cell? ⟨pg0, 5, none⟩ = some (.string ag0q4) := GY14.keep cY13_g0_5
            have cY14_g0_6 : Y14.cell? ⟨pg0, 6, none⟩ = some (.slice ag0q5 lg0q5 cg0q5) := GY14.keep cY13_g0_6
            have cY14_g0_7 : Y14.cell? ⟨pg0, 7, none⟩ = some (.slice ag0q6 lg0q6 cg0q6) := GY14.keep cY13_g0_7
            have cY14_g0_8 : Y14.cell? ⟨pg0, 8, none⟩ = some (.slice ag0q7 lg0q7 cg0q7) := GY14.keep cY13_g0_8
            have zY14_ag := blk cY14_ag_0
            have zY14_at := blk cY14_at_0
            have zY14_ax := blk cY14_ax_0
            have zY14_w0 := blk cY14_w0_0
            have zY14_x0 := blk cY14_x0_0
            have zY14_x1 := blk cY14_x1_0
            have zY14_g0 := blk cY14_g0_0
            have rY14_w0 := Lib.hid (Rd.gr rY13_w0.out GY14)
            have rY14_g0 := Lib.hid (Rd.gr rY13_g0.out GY14)
            clear cY13_ag_0 cY13_ag_1 cY13_at_0 cY13_ax_0 cY13_ax_1 cY13_w0_0 cY13_w0_1 cY13_w0_2 cY13_w0_3 cY13_w0_4 cY13_w0_5 cY13_w0_6 cY13_w0_7 cY13_w0_8 cY13_x0_0 cY13_x0_1 cY13_x1_0 cY13_g0_0 cY13_g0_1 cY13_g0_2 cY13_g0_3 cY13_g0_4 cY13_g0_5 cY13_g0_6 cY13_g0_7 cY13_g0_8
            go_wp2_with fail
            have mb := vEntry_bd 1 yv
            have mb0 : ¬ (vEntry 1 yv).2 < 0 := by omega
            have MB1 := Lib.hid (show (vEntry 1 yv).2 ≤ 4398046511104 by omega)
            clear mb
            refine (markEntry_any fg0 _ yv 1 _ rY14_g0.out F_g0.out.1 (by omega) MB1.out).mono ?_
            rintro e Y15 ⟨rfl, sY15, gY15⟩
            have rY15_g := Lib.hid sY15
            clear sY15
            have ZY15 : Y14.heap.size ≤ Y15.heap.size := Nat.le_trans (Gr.size ((by repeat (first | exact Gr.refl _ | apply Gr.ext | apply Gr.alloc | apply Gr.drew)) : Gr Y14 Y14)) gY15.size
            have GWY15 : Gr w Y15 := Gr.wr ((GWY14).trans (by repeat (first | exact Gr.refl _ | apply Gr.ext | apply Gr.alloc | apply Gr.drew))) gY15 (fun b hb => by have a1 := F_g0.out.2 b hb; omega)
            have cY15_ag_0 : Y15.cell? ⟨w.heap.size, 0, none⟩ = some (.slice gaq0 glq0 gcq0) := (World.cell?_of_block (gY15.block _ (blk (((by repeat (first | exact Gr.refl _ | apply Gr.ext | apply Gr.alloc | apply Gr.drew)) : Gr Y14 Y14).keep cY14_ag_0)) (fun h => by have a1 := F_g0.out.2 (w.heap.size) h; have a2 := L_g0.out (w.heap.size) h; omega))).trans (((by repeat (first | exact Gr.refl _ | apply Gr.ext | apply Gr.alloc | apply Gr.drew)) : Gr Y14 Y14).keep cY14_ag_0)
            have cY15_ag_1 : Y15.cell? ⟨w.heap.size, 1, none⟩ = some (.slice gaq1 glq1 gcq1) := (World.cell?_of_block (gY15.block _ (blk (((by repeat (first | exact Gr.refl _ | apply Gr.ext | apply Gr.alloc | apply Gr.drew)) : Gr Y14 Y14).keep cY14_ag_1)) (fun h => by have a1 := F_g0.out.2 (w.heap.size) h; have a2 := L_g0.out (w.heap.size) h; omega))).trans (((by repeat (first | exact Gr.refl _ | apply Gr.ext | apply Gr.alloc | apply Gr.drew)) : Gr Y14 Y14).keep cY14_ag_1)
            have cY15_at_0 : Y15.cell? ⟨w.heap.size + 1, 0, none⟩ = some (.slice taq0 tlq0 tcq0) := (World.cell?_of_block (gY15.block _ (blk (((by repeat (first | exact Gr.refl _ | apply Gr.ext | apply Gr.alloc | apply Gr.drew)) : Gr Y14 Y14).keep cY14_at_0)) (fun h => by have a1 := F_g0.out.2 (w.heap.size + 1) h; have a2 := L_g0.out (w.heap.size + 1) h; omega))).trans (((by repeat (first | exact Gr.refl _ | apply Gr.ext | apply Gr.alloc | apply Gr.drew)) : Gr Y14 Y14).keep cY14_at_0)
            have cY15_ax_0 : Y15.cell? ⟨w.heap.size + 1 + 1, 0, none⟩ = some (.int .i64 xaq0) := (World.cell?_of_block (gY15.block _ (blk (((by repeat (first | exact Gr.refl _ | apply Gr.ext | apply Gr.alloc | apply Gr.drew)) : Gr Y14 Y14).keep cY14_ax_0)) (fun h => by have a1 := F_g0.out.2 (w.heap.size + 1 + 1) h; have a2 := L_g0.out (w.heap.size + 1 + 1) h; omega))).trans (((by repeat (first | exact Gr.refl _ | apply Gr.ext | apply Gr.alloc | apply Gr.drew)) : Gr Y14 Y14).keep cY14_ax_0)
            have cY15_ax_1 : Y15.cell? ⟨w.heap.size + 1 + 1, 1, none⟩ = some (.string xaq1) := (World.cell?_of_block (gY15.block _ (blk (((by repeat (first | exact Gr.refl _ | apply Gr.ext | apply Gr.alloc | apply Gr.drew)) : Gr Y14 Y14).keep cY14_ax_1)) (fun h => by have a1 := F_g0.out.2 (w.heap.size + 1 + 1) h; have a2 := L_g0.out (w.heap.size + 1 + 1) h; omega))).trans (((by repeat (first | exact Gr.refl _ | apply Gr.ext | apply Gr.alloc | apply Gr.drew)) : Gr Y14 Y14).keep cY14_ax_1)
            have cY15_w0_0 : Y15.cell? ⟨pw0, 0, none⟩ = some (.int .i64 aw0q00) := (World.cell?_of_block (gY15.block _ (blk (((by repeat (first | exact Gr.refl _ | apply Gr.ext | apply Gr.alloc | apply Gr.drew)) : Gr Y14 Y14).keep cY14_w0_0)) (fun h => by have a1 := F_g0.out.2 (pw0) h; have a2 := L_g0.out (pw0) h; omega))).trans (((by repeat (first | exact Gr.refl _ | apply Gr.ext | apply Gr.alloc | apply Gr.drew)) : Gr Y14 Y14).keep cY14_w0_0)
            have cY15_w0_1 : Y15.cell? ⟨pw0, 1, none⟩ = some (.string aw0q01) := (World.cell?_of_block (gY15.block _ (blk (((by repeat (first | exact Gr.refl _ | apply Gr.ext | apply Gr.alloc | apply Gr.drew)) : Gr Y14 Y14).keep cY14_w0_1)) (fun h => by have a1 := F_g0.out.2 (pw0) h; have a2 := L_g0.out (pw0) h; omega))).trans (((by repeat (first | exact Gr.refl _ | apply Gr.ext | apply Gr.alloc | apply Gr.drew)) : Gr Y14 Y14).keep cY14_w0_1)
            have cY15_w0_2 : Y15.cell? ⟨pw0, 2, none⟩ = some (.int .i64 aw0q1) := (World.cell?_of_block (gY15.block _ (blk (((by repeat (first | exact Gr.refl _ | apply Gr.ext | apply Gr.alloc | apply Gr.drew)) : Gr Y14 Y14).keep cY14_w0_2)) (fun h => by have a1 := F_g0.out.2 (pw0) h; have a2 := L_g0.out (pw0) h; omega))).trans (((by repeat (first | exact Gr.refl _ | apply Gr.ext | apply Gr.alloc | apply Gr.drew)) : Gr Y14 Y14).keep cY14_w0_2)
            have cY15_w0_3 : Y15.cell? ⟨pw0, 3, none⟩ = some (.int .i64 aw0q2) := (World.cell?_of_block (gY15.block _ (blk (((by repeat (first | exact Gr.refl _ | apply Gr.ext | apply Gr.alloc | apply Gr.drew)) : Gr Y14 Y14).keep cY14_w0_3)) (fun h => by have a1 := F_g0.out.2 (pw0) h; have a2 := L_g0.out (pw0) h; omega))).trans (((by repeat (first | exact Gr.refl _ | apply Gr.ext | apply Gr.alloc | apply Gr.drew)) : Gr Y14 Y14).keep cY14_w0_3)
            have cY15_w0_4 : Y15.cell? ⟨pw0, 4, none⟩ = some (.int .i64 aw0q3) := (World.cell?_of_block (gY15.block _ (blk (((by repeat (first | exact Gr.refl _ | apply Gr.ext | apply Gr.alloc | apply Gr.drew)) : Gr Y14 Y14).keep cY14_w0_4)) (fun h => by have a1 := F_g0.out.2 (pw0) h; have a2 := L_g0.out (pw0) h; omega))).trans (((by repeat (first | exact Gr.refl _ | apply Gr.ext | apply Gr.alloc | apply Gr.drew)) : Gr Y14 Y14).keep cY14_w0_4)
            have cY15_w0_5 : Y15.cell? ⟨pw0, 5, none⟩ = some (.string aw0q4) := (World.cell?_of_block (gY15.block _ (blk (((by repeat (first | exact Gr.refl _ | apply Gr.ext | apply Gr.alloc | apply Gr.drew)) : Gr Y14 Y14).keep cY14_w0_5)) (fun h => by have a1 := F_g0.out.2 (pw0) h; have a2 := L_g0.out (pw0) h; omega))).trans (((by repeat (first | exact Gr.refl _ | apply Gr.ext | apply Gr.alloc | apply Gr.drew)) : Gr Y14 Y14).keep cY14_w0_5)
            have cY15_w0_6 : Y15.cell? ⟨pw0, 6, none⟩ = some (.slice aw0q5 lw0q5 cw0q5) := (World.cell?_of_block (gY15.block _ (blk (((by repeat (first | exact Gr.refl _ | apply Gr.ext | apply Gr.alloc | apply Gr.drew)) : Gr Y14 Y14).keep cY14_w0_6)) (fun h => by have a1 := F_g0.out.2 (pw0) h; have a2 := L_g0.out (pw0) h; omega))).trans (((by repeat (first | exact Gr.refl _ | apply Gr.ext | apply Gr.alloc | apply Gr.drew)) : Gr Y14 Y14).keep cY14_w0_6)
            have cY15_w0_7 : Y15.cell? ⟨pw0, 7, none⟩ = some (.slice aw0q6 lw0q6 cw0q6) := (World.cell?_of_block (gY15.block _ (blk (((by repeat (first | exact Gr.refl _ | apply Gr.ext | apply Gr.alloc | apply Gr.drew)) : Gr Y14 Y14).keep cY14_w0_7)) (fun h => by have a1 := F_g0.out.2 (pw0) h; have a2 := L_g0.out (pw0) h; omega))).trans (((by repeat (first | exact Gr.refl _ | apply Gr.ext | apply Gr.alloc | apply Gr.drew)) : Gr Y14 Y14).keep cY14_w0_7)
            have cY15_w0_8 : Y15.cell? ⟨pw0, 8, none⟩ = some (.slice aw0q7 lw0q7 cw0q7) := (World.cell?_of_block (gY15.block _ (blk (((by repeat (first | exact Gr.refl _ | apply Gr.ext | apply Gr.alloc | apply Gr.drew)) : Gr Y14 Y14).keep cY14_w0_8)) (fun h => by have a1 := F_g0.out.2 (pw0) h; have a2 := L_g0.out (pw0) h; omega))).trans (((by repeat (first | exact Gr.refl _ | apply Gr.ext | apply Gr.alloc | apply Gr.drew)) : Gr Y14 Y14).keep cY14_w0_8)
            have cY15_x0_0 : Y15.cell? ⟨Y5.heap.size, 0, none⟩ = some (.slice ax0q0 lx0q0 cx0q0) := (World.cell?_of_block (gY15.block _ (blk (((by repeat (first | exact Gr.refl _ | apply Gr.ext | apply Gr.alloc | apply Gr.drew)) : Gr Y14 Y14).keep cY14_x0_0)) (fun h => by have a1 := F_g0.out.2 (Y5.heap.size) h; have a2 := L_g0.out (Y5.heap.size) h; omega))).trans (((by repeat (first | exact Gr.refl _ | apply Gr.ext | apply Gr.alloc | apply Gr.drew)) : Gr Y14 Y14).keep cY14_x0_0)
            have cY15_x0_1 : Y15.cell? ⟨Y5.heap.size, 1, none⟩ = some (.slice ax0q1 lx0q1 cx0q1) := (World.cell?_of_block (gY15.block _ (blk (((by repeat (first | exact Gr.refl _ | apply Gr.ext | apply Gr.alloc | apply Gr.drew)) : Gr Y14 Y14).keep cY14_x0_1)) (fun h => by have a1 := F_g0.out.2 (Y5.heap.size) h; have a2 := L_g0.out (Y5.heap.size) h; omega))).trans (((by repeat (first | exact Gr.refl _ | apply Gr.ext | apply Gr.alloc | apply Gr.drew)) : Gr Y14 Y14).keep cY14_x0_1)
            have cY15_x1_0 : Y15.cell? ⟨Y6.heap.size, 0, none⟩ = some (.slice ax1q0 lx1q0 cx1q0) := (World.cell?_of_block (gY15.block _ (blk (((by repeat (first | exact Gr.refl _ | apply Gr.ext | apply Gr.alloc | apply Gr.drew)) : Gr Y14 Y14).keep cY14_x1_0)) (fun h => by have a1 := F_g0.out.2 (Y6.heap.size) h; have a2 := L_g0.out (Y6.heap.size) h; omega))).trans (((by repeat (first | exact Gr.refl _ | apply Gr.ext | apply Gr.alloc | apply Gr.drew)) : Gr Y14 Y14).keep cY14_x1_0)
            have cY15_g0_0 : Y15.cell? ⟨pg0, 0, none⟩ = some (.int .i64 ag0q00) := (World.cell?_of_block (gY15.block _ (blk (((by repeat (first | exact Gr.refl _ | apply Gr.ext | apply Gr.alloc | apply Gr.drew)) : Gr Y14 Y14).keep cY14_g0_0)) (fun h => D_g0.out (pg0) h rfl))).trans (((by repeat (first | exact Gr.refl _ | apply Gr.ext | apply Gr.alloc | apply Gr.drew)) : Gr Y14 Y14).keep cY14_g0_0)
            have cY15_g0_1 : Y15.cell? ⟨pg0, 1, none⟩ = some (.string ag0q01) := (World.cell?_of_block (gY15.block _ (blk (((by repeat (first | exact Gr.refl _ | apply Gr.ext | apply Gr.alloc | apply Gr.drew)) : Gr Y14 Y14).keep cY14_g0_1)) (fun h => D_g0.out (pg0) h rfl))).trans (((by repeat (first | exact Gr.refl _ | apply Gr.ext | apply Gr.alloc | apply Gr.drew)) : Gr Y14 Y14).keep cY14_g0_1)
            have cY15_g0_2 : Y15.cell? ⟨pg0, 2, none⟩ = some (.int .i64 ag0q1) := (World.cell?_of_block (gY15.block _ (blk (((by repeat (first | exact Gr.refl _ | apply Gr.ext | apply Gr.alloc | apply Gr.drew)) : Gr Y14 Y14).keep cY14_g0_2)) (fun h => D_g0.out (pg0) h rfl))).trans (((by repeat (first | exact Gr.refl _ | apply Gr.ext | apply Gr.alloc | apply Gr.drew)) : Gr Y14 Y14).keep cY14_g0_2)
            have cY15_g0_3 : Y15.cell? ⟨pg0, 3, none⟩ = some (.int .i64 ag0q2) := (World.cell?_of_block (gY15.block _ (blk (((by repeat (first | exact Gr.refl _ | apply Gr.ext | apply Gr.alloc | apply Gr.drew)) : Gr Y14 Y14).keep cY14_g0_3)) (fun h => D_g0.out (pg0) h rfl))).trans (((by repeat (first | exact Gr.refl _ | apply Gr.ext | apply Gr.alloc | apply Gr.drew)) : Gr Y14 Y14).keep cY14_g0_3)
            have cY15_g0_4 : Y15.cell? ⟨pg0, 4, none⟩ = some (.int .i64 ag0q3) := (World.cell?_of_block (gY15.block _ (blk (((by repeat (first | exact Gr.refl _ | apply Gr.ext | apply Gr.alloc | apply Gr.drew)) : Gr Y14 Y14).keep cY14_g0_4)) (fun h => D_g0.out (pg0) h rfl))).trans (((by repeat (first | exact Gr.refl _ | apply Gr.ext | apply Gr.alloc | apply Gr.drew)) : Gr Y14 Y14).keep cY14_g0_4)
            have cY15_g0_5 : Y15.cell? ⟨pg0, 5, none⟩ = some (.string ag0q4) := (World.cell?_of_block (gY15.block _ (blk (((by repeat (first | exact Gr.refl _ | apply Gr.ext | apply Gr.alloc | apply Gr.drew)) : Gr Y14 Y14).keep cY14_g0_5)) (fun h => D_g0.out (pg0) h rfl))).trans (((by repeat (first | exact Gr.refl _ | apply Gr.ext | apply Gr.alloc | apply Gr.drew)) : Gr Y14 Y14).keep cY14_g0_5)
            have cY15_g0_6 : Y15.cell? ⟨pg0, 6, none⟩ = some (.slice ag0q5 lg0q5 cg0q5) := (World.cell?_of_block (gY15.block _ (blk (((by repeat (first | exact Gr.refl _ | apply Gr.ext | apply Gr.alloc | apply Gr.drew)) : Gr Y14 Y14).keep cY14_g0_6)) (fun h => D_g0.out (pg0) h rfl))).trans (((by repeat (first | exact Gr.refl _ | apply Gr.ext | apply Gr.alloc | apply Gr.drew)) : Gr Y14 Y14).keep cY14_g0_6)
            have cY15_g0_7 : Y15.cell? ⟨pg0, 7, none⟩ = some (.slice ag0q6 lg0q6 cg0q6) := (World.cell?_of_block (gY15.block _ (blk (((by repeat (first | exact Gr.refl _ | apply Gr.ext | apply Gr.alloc | apply Gr.drew)) : Gr Y14 Y14).keep cY14_g0_7)) (fun h => D_g0.out (pg0) h rfl))).trans (((by repeat (first | exact Gr.refl _ | apply Gr.ext | apply Gr.alloc | apply Gr.drew)) : Gr Y14 Y14).keep cY14_g0_7)
            have cY15_g0_8 : Y15.cell? ⟨pg0, 8, none⟩ = some (.slice ag0q7 lg0q7 cg0q7) := (World.cell?_of_block (gY15.block _ (blk (((by repeat (first | exact Gr.refl _ | apply Gr.ext | apply Gr.alloc | apply Gr.drew)) : Gr Y14 Y14).keep cY14_g0_8)) (fun h => D_g0.out (pg0) h rfl))).trans (((by repeat (first | exact Gr.refl _ | apply Gr.ext | apply Gr.alloc | apply Gr.drew)) : Gr Y14 Y14).keep cY14_g0_8)
            have zY15_ag := blk cY15_ag_0
            have zY15_at := blk cY15_at_0
            have zY15_ax := blk cY15_ax_0
            have zY15_w0 := blk cY15_w0_0
            have zY15_x0 := blk cY15_x0_0
            have zY15_x1 := blk cY15_x1_0
            have zY15_g0 := blk cY15_g0_0
            have rY15_w0 := Lib.hid (Rd.wr (Rd.gr rY14_w0.out ((by repeat (first | exact Gr.refl _ | apply Gr.ext | apply Gr.alloc | apply Gr.drew)) : Gr Y14 Y14)) gY15 (fun b h1 h2 => by have a1 := F_g0.out.2 _ h2; have a2 := L_g0.out _ h2; have a3 := F_w0.out.2 _ h1; have a4 := L_w0.out _ h1; omega))
            clear cY14_ag_0 cY14_ag_1 cY14_at_0 cY14_ax_0 cY14_ax_1 cY14_w0_0 cY14_w0_1 cY14_w0_2 cY14_w0_3 cY14_w0_4 cY14_w0_5 cY14_w0_6 cY14_w0_7 cY14_w0_8 cY14_x0_0 cY14_x0_1 cY14_x1_0 cY14_g0_0 cY14_g0_1 cY14_g0_2 cY14_g0_3 cY14_g0_4 cY14_g0_5 cY14_g0_6 cY14_g0_7 cY14_g0_8
            go_wp2_with fail
            refine (heldEntry_any _ _ yv 1 _ rY15_g.out (by omega) MB1.out).mono ?_
            rintro e Y16 ⟨rfl, gY16⟩
            have GY16 : Gr Y15 Y16 := ((by repeat (first | exact Gr.refl _ | apply Gr.ext | apply Gr.alloc | apply Gr.drew)) : Gr Y15 Y15).trans gY16
            have GWY16 : Gr w Y16 := GWY15.trans GY16
            have ZY16 : Y15.heap.size ≤ Y16.heap.size := GY16.size
            have cY16_ag_0 : Y16.cell? ⟨w.heap.size, 0, none⟩ = some (.slice gaq0 glq0 gcq0) := GY16.keep cY15_ag_0
            have cY16_ag_1 : Y16.cell? ⟨w.heap.size, 1, none⟩ = some (.slice gaq1 glq1 gcq1) := GY16.keep cY15_ag_1
            have cY16_at_0 : Y16.cell? ⟨w.heap.size + 1, 0, none⟩ = some (.slice taq0 tlq0 tcq0) := GY16.keep cY15_at_0
            have cY16_ax_0 : Y16.cell? ⟨w.heap.size + 1 + 1, 0, none⟩ = some (.int .i64 xaq0) := GY16.keep cY15_ax_0
            have cY16_ax_1 : Y16.cell? ⟨w.heap.size + 1 + 1, 1, none⟩ = some (.string xaq1) := GY16.keep cY15_ax_1
            have cY16_w0_0 : Y16.cell? ⟨pw0, 0, none⟩ = some (.int .i64 aw0q00) := GY16.keep cY15_w0_0
            have cY16_w0_1 : Y16.cell? ⟨pw0, 1, none⟩ = some (.string aw0q01) := GY16.keep cY15_w0_1
            have cY16_w0_2 : Y16.cell? ⟨pw0, 2, none⟩ = some (.int .i64 aw0q1) := GY16.keep cY15_w0_2
            have cY16_w0_3 : Y16.cell? ⟨pw0, 3, none⟩ = some (.int .i64 aw0q2) := GY16.keep cY15_w0_3
            have cY16_w0_4 : Y16.cell? ⟨pw0, 4, none⟩ = some (.int .i64 aw0q3) := GY16.keep cY15_w0_4
            have cY16_w0_5 : Y16.cell? ⟨pw0, 5, none⟩ = some (.string aw0q4) := GY16.keep cY15_w0_5
            have cY16_w0_6 : Y16.cell? ⟨pw0, 6, none⟩ = some (.slice aw0q5 lw0q5 cw0q5) := GY16.keep cY15_w0_6
            have cY16_w0_7 : Y16.cell? ⟨pw0, 7, none⟩ = some (.slice aw0q6 lw0q6 cw0q6) := GY16.keep cY15_w0_7
            have cY16_w0_8 : Y16.cell? ⟨pw0, 8, none⟩ = some (.slice aw0q7 lw0q7 cw0q7) := GY16.keep cY15_w0_8
            have cY16_x0_0 : Y16.cell? ⟨Y5.heap.size, 0, none⟩ = some (.slice ax0q0 lx0q0 cx0q0) := GY16.keep cY15_x0_0
            have cY16_x0_1 : Y16.cell? ⟨Y5.heap.size, 1, none⟩ = some (.slice ax0q1 lx0q1 cx0q1) := GY16.keep cY15_x0_1
            have cY16_x1_0 : Y16.cell? ⟨Y6.heap.size, 0, none⟩ = some (.slice ax1q0 lx1q0 cx1q0) := GY16.keep cY15_x1_0
            have cY16_g0_0 : Y16.cell? ⟨pg0, 0, none⟩ = some (.int .i64 ag0q00) := GY16.keep cY15_g0_0
            have cY16_g0_1 : Y16.cell? ⟨pg0, 1, none⟩ = some (.string ag0q01) := GY16.keep cY15_g0_1
            have cY16_g0_2 : Y16.cell? ⟨pg0, 2, none⟩ = some (.int .i64 ag0q1) := GY16.keep cY15_g0_2
            have cY16_g0_3 : Y16.cell? ⟨pg0, 3, none⟩ = some (.int .i64 ag0q2) := GY16.keep cY15_g0_3
            have cY16_g0_4 : Y16.cell? ⟨pg0, 4, none⟩ = some (.int .i64 ag0q3) := GY16.keep cY15_g0_4
            have cY16_g0_5 : Y16.cell? ⟨pg0, 5, none⟩ = some (.string ag0q4) := GY16.keep cY15_g0_5
            have cY16_g0_6 : Y16.cell? ⟨pg0, 6, none⟩ = some (.slice ag0q5 lg0q5 cg0q5) := GY16.keep cY15_g0_6
            have cY16_g0_7 : Y16.cell? ⟨pg0, 7, none⟩ = some (.slice ag0q6 lg0q6 cg0q6) := GY16.keep cY15_g0_7
            have cY16_g0_8 : Y16.cell? ⟨pg0, 8, none⟩ = some (.slice ag0q7 lg0q7 cg0q7) := GY16.keep cY15_g0_8
            have zY16_ag := blk cY16_ag_0
            have zY16_at := blk cY16_at_0
            have zY16_ax := blk cY16_ax_0
            have zY16_w0 := blk cY16_w0_0
            have zY16_x0 := blk cY16_x0_0
            have zY16_x1 := blk cY16_x1_0
            have zY16_g0 := blk cY16_g0_0
            have rY16_w0 := Lib.hid (Rd.gr rY15_w0.out GY16)
            have rY16_g0 := Lib.hid (Rd.gr rY15_g.out GY16)
            clear cY15_ag_0 cY15_ag_1 cY15_at_0 cY15_ax_0 cY15_ax_1 cY15_w0_0 cY15_w0_1 cY15_w0_2 cY15_w0_3 cY15_w0_4 cY15_w0_5 cY15_w0_6 cY15_w0_7 cY15_w0_8 cY15_x0_0 cY15_x0_1 cY15_x1_0 cY15_g0_0 cY15_g0_1 cY15_g0_2 cY15_g0_3 cY15_g0_4 cY15_g0_5 cY15_g0_6 cY15_g0_7 cY15_g0_8
            go_wp2_with fail
            go_upto_region 34 with fail
            go_cut [15] (fun sp wx => BoxOne Y16 yv sp wx)
            case first =>
              have kcY16_ag_0 : ∀ w' : World, Gr Y16 w' → w'.cell? ⟨w.heap.size, 0, none⟩ = some (.slice gaq0 glq0 gcq0) := fun w' h => h.keep cY16_ag_0
              have kcY16_ag_1 : ∀ w' : World, Gr Y16 w' → w'.cell? ⟨w.heap.size, 1, none⟩ = some (.slice gaq1 glq1 gcq1) := fun w' h => h.keep cY16_ag_1
              have kcY16_at_0 : ∀ w' : World, Gr Y16 w' → w'.cell? ⟨w.heap.size + 1, 0, none⟩ = some (.slice taq0 tlq0 tcq0) := fun w' h => h.keep cY16_at_0
              have kcY16_ax_0 : ∀ w' : World, Gr Y16 w' → w'.cell? ⟨w.heap.size + 1 + 1, 0, none⟩ = some (.int .i64 xaq0) := fun w' h => h.keep cY16_ax_0
              have kcY16_ax_1 : ∀ w' : World, Gr Y16 w' → w'.cell? ⟨w.heap.size + 1 + 1, 1, none⟩ = some (.string xaq1) := fun w' h => h.keep cY16_ax_1
              have kcY16_w0_0 : ∀ w' : World, Gr Y16 w' → w'.cell? ⟨pw0, 0, none⟩ = some (.int .i64 aw0q00) := fun w' h => h.keep cY16_w0_0
              have kcY16_w0_1 : ∀ w' : World, Gr Y16 w' → w'.cell? ⟨pw0, 1, none⟩ = some (.string aw0q01) := fun w' h => h.keep cY16_w0_1
              have kcY16_w0_2 : ∀ w' : World, Gr Y16 w' → w'.cell? ⟨pw0, 2, none⟩ = some (.int .i64 aw0q1) := fun w' h => h.keep cY16_w0_2
              have kcY16_w0_3 : ∀ w' : World, Gr Y16 w' → w'.cell? ⟨pw0, 3, none⟩ = some (.int .i64 aw0q2) := fun w' h => h.keep cY16_w0_3
              have kcY16_w0_4 : ∀ w' : World, Gr Y16 w' → w'.cell? ⟨pw0, 4, none⟩ = some (.int .i64 aw0q3) := fun w' h => h.keep cY16_w0_4
              have kcY16_w0_5 : ∀ w' : World, Gr Y16 w' → w'.cell? ⟨pw0, 5, none⟩ = some (.string aw0q4) := fun w' h => h.keep cY16_w0_5
              have kcY16_w0_6 : ∀ w' : World, Gr Y16 w' → w'.cell? ⟨pw0, 6, none⟩ = some (.slice aw0q5 lw0q5 cw0q5) := fun w' h => h.keep cY16_w0_6
              have kcY16_w0_7 : ∀ w' : World, Gr Y16 w' → w'.cell? ⟨pw0, 7, none⟩ = some (.slice aw0q6 lw0q6 cw0q6) := fun w' h => h.keep cY16_w0_7
              have kcY16_w0_8 : ∀ w' : World, Gr Y16 w' → w'.cell? ⟨pw0, 8, none⟩ = some (.slice aw0q7 lw0q7 cw0q7) := fun w' h => h.keep cY16_w0_8
              have kcY16_x0_0 : ∀ w' : World, Gr Y16 w' → w'.cell? ⟨Y5.heap.size, 0, none⟩ = some (.slice ax0q0 lx0q0 cx0q0) := fun w' h => h.keep cY16_x0_0
              have kcY16_x0_1 : ∀ w' : World, Gr Y16 w' → w'.cell? ⟨Y5.heap.size, 1, none⟩ = some (.slice ax0q1 lx0q1 cx0q1) := fun w' h => h.keep cY16_x0_1
              have kcY16_x1_0 : ∀ w' : World, Gr Y16 w' → w'.cell? ⟨Y6.heap.size, 0, none⟩ = some (.slice ax1q0 lx1q0 cx1q0) := fun w' h => h.keep cY16_x1_0
              have kcY16_g0_0 : ∀ w' : World, Gr Y16 w' → w'.cell? ⟨pg0, 0, none⟩ = some (.int .i64 ag0q00) := fun w' h => h.keep cY16_g0_0
              have kcY16_g0_1 : ∀ w' : World, Gr Y16 w' → w'.cell? ⟨pg0, 1, none⟩ = some (.string ag0q01) := fun w' h => h.keep cY16_g0_1
              have kcY16_g0_2 : ∀ w' : World, Gr Y16 w' → w'.cell? ⟨pg0, 2, none⟩ = some (.int .i64 ag0q1) := fun w' h => h.keep cY16_g0_2
              have kcY16_g0_3 : ∀ w' : World, Gr Y16 w' → w'.cell? ⟨pg0, 3, none⟩ = some (.int .i64 ag0q2) := fun w' h => h.keep cY16_g0_3
              have kcY16_g0_4 : ∀ w' : World, Gr Y16 w' → w'.cell? ⟨pg0, 4, none⟩ = some (.int .i64 ag0q3) := fun w' h => h.keep cY16_g0_4
              have kcY16_g0_5 : ∀ w' : World, Gr Y16 w' → w'.cell? ⟨pg0, 5, none⟩ = some (.string ag0q4) := fun w' h => h.keep cY16_g0_5
              have kcY16_g0_6 : ∀ w' : World, Gr Y16 w' → w'.cell? ⟨pg0, 6, none⟩ = some (.slice ag0q5 lg0q5 cg0q5) := fun w' h => h.keep cY16_g0_6
              have kcY16_g0_7 : ∀ w' : World, Gr Y16 w' → w'.cell? ⟨pg0, 7, none⟩ = some (.slice ag0q6 lg0q6 cg0q6) := fun w' h => h.keep cY16_g0_7
              have kcY16_g0_8 : ∀ w' : World, Gr Y16 w' → w'.cell? ⟨pg0, 8, none⟩ = some (.slice ag0q7 lg0q7 cg0q7) := fun w' h => h.keep cY16_g0_8
              go_region_held3 (fun w' => Gr Y16 w') (first | assumption | exact Gr.drew (Gr.refl _) | (repeat (first | assumption | exact Gr.refl _ | apply Gr.ext | apply Gr.alloc | apply Gr.drew)))
                (first
                  | (go_at_call_of 10 gaq0; refine (toGrammar_any _ _ g _ (Rd.gr HG.out (GWY16.trans (by first | assumption | exact (by repeat (first | exact Gr.refl _ | apply Gr.ext | apply Gr.alloc | apply Gr.drew))))) wtg).mono ?_; rintro e w' ⟨ds0, ff0, rfl, ss0, fr0, ex0, rfl⟩)
                  | (go_at_call_of 11 taq0; refine (toTree_any _ _ t _ (Rd.gr HT.out (GWY16.trans (by first | assumption | exact (by repeat (first | exact Gr.refl _ | apply Gr.ext | apply Gr.alloc | apply Gr.drew))))) wtt).mono ?_; rintro e w' ⟨ds1, ff1, rfl, ss1, fr1, ex1, rfl⟩)
                  | (go_at_call_of 12 xaq0; refine (toInstance_any _ _ x _ (Rd.gr HX.out (GWY16.trans (by first | assumption | exact (by repeat (first | exact Gr.refl _ | apply Gr.ext | apply Gr.alloc | apply Gr.drew)))))).mono ?_; rintro e w' ⟨rfl, ex2, rfl⟩)
                  | (go_at_call 13; refine (implSrc_any g t x _ (Rd.gr ss0 (by repeat (first | exact Gr.refl _ | apply Gr.ext | apply Gr.alloc | apply Gr.drew))) (Rd.gr ss1 (by repeat (first | exact Gr.refl _ | apply Gr.ext | apply Gr.alloc | apply Gr.drew))) (Rd.gr HX.out (GWY16.trans (by first | assumption | exact (by repeat (first | exact Gr.refl _ | apply Gr.ext | apply Gr.alloc | apply Gr.drew))))) wtg wtt).mono ?_; rintro e w' ⟨es, fq, rfl, hrh0, hfh0, exz, rfl⟩; rw [← HYV.out] at hrh0; obtain ⟨bq00, bq01, bq1, bq2, bq3, bq4, bq5, eq5, hq5, bq6, eq6, hq6, bq7, eq7, hq7, rfl⟩ := rdEntry_shape hrh0))
              all_goals
                go_wp2_with fail
                go_meet
                refine ⟨_, #[.int .i64 bq00, .string bq01, .int .i64 bq1, .int .i64 bq2, .int .i64 bq3, .string bq4, .slice bq5 eq5 hq5, .slice bq6 eq6 hq6, .slice bq7 eq7 hq7], fq, rfl, (by repeat (first | exact Gr.refl _ | apply Gr.ext | apply Gr.alloc | apply Gr.drew)), by (try simp) <;> omega, fun j u hj => ?_, ?_, hfh0.1, fun c hc => ?_⟩
                rotate_left 1
                · first
                  | (refine Rd.gr hrh0 ?_; (repeat (first | exact Gr.refl _ | apply Gr.ext | apply Gr.alloc | apply Gr.drew)); done)
                  | (exact Rd.moved hrh0 hfh0 (Gr.refl _) (by simp))
                rotate_right 1
                · match j, hj with
                  | 0, hj => obtain rfl := Option.some.inj hj; go_simp
                  | 1, hj => obtain rfl := Option.some.inj hj; go_simp
                  | 2, hj => obtain rfl := Option.some.inj hj; go_simp
                  | 3, hj => obtain rfl := Option.some.inj hj; go_simp
                  | 4, hj => obtain rfl := Option.some.inj hj; go_simp
                  | 5, hj => obtain rfl := Option.some.inj hj; go_simp
                  | 6, hj => obtain rfl := Option.some.inj hj; go_simp
                  | 7, hj => obtain rfl := Option.some.inj hj; go_simp
                  | 8, hj => obtain rfl := Option.some.inj hj; go_simp
                · have h1 := hfh0.2 c hc
                  have h2 := Rd.lt hrh0 c hc
                  simp at h1 h2
                  constructor <;> (try simp) <;> omega
            case rest =>
              obtain ⟨ph0, esh0, fh0, rfl, gY17, qh0, kh0, rh0, nh0, mh0⟩ := hcut
              obtain ⟨ah0q00, ah0q01, ah0q1, ah0q2, ah0q3, ah0q4, ah0q5, lh0q5, ch0q5, ah0q6, lh0q6, ch0q6, ah0q7, lh0q7, ch0q7, rfl⟩ := rdEntry_shape rh0
              rename World => Y17
              have F_h0 : Hid (fh0.Nodup ∧ ∀ b ∈ fh0, Y16.heap.size + 0 ≤ b) := Lib.hid ⟨nh0, fun b hb => (mh0 b hb).1⟩
              have D_h0 := Lib.hid (fun b (hb : b ∈ fh0) => (mh0 b hb).2)
              have L_h0 := Lib.hid (Rd.lt rh0)
              have ZW0h0 : w.heap.size ≤ Y16.heap.size := Gr.size GWY16
              have cY17_h0_0 : Y17.cell? ⟨ph0, 0, none⟩ = some (.int .i64 ah0q00) := by simpa using kh0 0 _ rfl
              have cY17_h0_1 : Y17.cell? ⟨ph0, 1, none⟩ = some (.string ah0q01) := by simpa using kh0 1 _ rfl
              have cY17_h0_2 : Y17.cell? ⟨ph0, 2, none⟩ = some (.int .i64 ah0q1) := by simpa using kh0 2 _ rfl
              have cY17_h0_3 : Y17.cell? ⟨ph0, 3, none⟩ = some (.int .i64 ah0q2) := by simpa using kh0 3 _ rfl
              have cY17_h0_4 : Y17.cell? ⟨ph0, 4, none⟩ = some (.int .i64 ah0q3) := by simpa using kh0 4 _ rfl
              have cY17_h0_5 : Y17.cell? ⟨ph0, 5, none⟩ = some (.string ah0q4) := by simpa using kh0 5 _ rfl
              have cY17_h0_6 : Y17.cell? ⟨ph0, 6, none⟩ = some (.slice ah0q5 lh0q5 ch0q5) := by simpa using kh0 6 _ rfl
              have cY17_h0_7 : Y17.cell? ⟨ph0, 7, none⟩ = some (.slice ah0q6 lh0q6 ch0q6) := by simpa using kh0 7 _ rfl
              have cY17_h0_8 : Y17.cell? ⟨ph0, 8, none⟩ = some (.slice ah0q7 lh0q7 ch0q7) := by simpa using kh0 8 _ rfl
              have zY17_h0 := blk cY17_h0_0
              have rY17_h0 := Lib.hid rh0
              clear kh0 rh0 nh0 mh0
              have GY17 : Gr Y16 Y17 := ((by repeat (first | exact Gr.refl _ | apply Gr.ext | apply Gr.alloc | apply Gr.drew)) : Gr Y16 Y16).trans gY17
              have GWY17 : Gr w Y17 := GWY16.trans GY17
              have ZY17 : Y16.heap.size ≤ Y17.heap.size := GY17.size
              have cY17_ag_0 : Y17.cell? ⟨w.heap.size, 0, none⟩ = some (.slice gaq0 glq0 gcq0) := GY17.keep cY16_ag_0
              have cY17_ag_1 : Y17.cell? ⟨w.heap.size, 1, none⟩ = some (.slice gaq1 glq1 gcq1) := GY17.keep cY16_ag_1
              have cY17_at_0 : Y17.cell? ⟨w.heap.size + 1, 0, none⟩ = some (.slice taq0 tlq0 tcq0) := GY17.keep cY16_at_0
              have cY17_ax_0 : Y17.cell? ⟨w.heap.size + 1 + 1, 0, none⟩ = some (.int .i64 xaq0) := GY17.keep cY16_ax_0
              have cY17_ax_1 : Y17.cell? ⟨w.heap.size + 1 + 1, 1, none⟩ = some (.string xaq1) := GY17.keep cY16_ax_1
              have cY17_w0_0 : Y17.cell? ⟨pw0, 0, none⟩ = some (.int .i64 aw0q00) := GY17.keep cY16_w0_0
              have cY17_w0_1 : Y17.cell? ⟨pw0, 1, none⟩ = some (.string aw0q01) := GY17.keep cY16_w0_1
              have cY17_w0_2 : Y17.cell? ⟨pw0, 2, none⟩ = some (.int .i64 aw0q1) := GY17.keep cY16_w0_2
              have cY17_w0_3 : Y17.cell? ⟨pw0, 3, none⟩ = some (.int .i64 aw0q2) := GY17.keep cY16_w0_3
              have cY17_w0_4 : Y17.cell? ⟨pw0, 4, none⟩ = some (.int .i64 aw0q3) := GY17.keep cY16_w0_4
              have cY17_w0_5 : Y17.cell? ⟨pw0, 5, none⟩ = some (.string aw0q4) := GY17.keep cY16_w0_5
              have cY17_w0_6 : Y17.cell? ⟨pw0, 6, none⟩ = some (.slice aw0q5 lw0q5 cw0q5) := GY17.keep cY16_w0_6
              have cY17_w0_7 : Y17.cell? ⟨pw0, 7, none⟩ = some (.slice aw0q6 lw0q6 cw0q6) := GY17.keep cY16_w0_7
              have cY17_w0_8 : Y17.cell? ⟨pw0, 8, none⟩ = some (.slice aw0q7 lw0q7 cw0q7) := GY17.keep cY16_w0_8
              have cY17_x0_0 : Y17.cell? ⟨Y5.heap.size, 0, none⟩ = some (.slice ax0q0 lx0q0 cx0q0) := GY17.keep cY16_x0_0
              have cY17_x0_1 : Y17.cell? ⟨Y5.heap.size, 1, none⟩ = some (.slice ax0q1 lx0q1 cx0q1) := GY17.keep cY16_x0_1
              have cY17_x1_0 : Y17.cell? ⟨Y6.heap.size, 0, none⟩ = some (.slice ax1q0 lx1q0 cx1q0) := GY17.keep cY16_x1_0
              have cY17_g0_0 : Y17.cell? ⟨pg0, 0, none⟩ = some (.int .i64 ag0q00) := GY17.keep cY16_g0_0
              have cY17_g0_1 : Y17.cell? ⟨pg0, 1, none⟩ = some (.string ag0q01) := GY17.keep cY16_g0_1
              have cY17_g0_2 : Y17.cell? ⟨pg0, 2, none⟩ = some (.int .i64 ag0q1) := GY17.keep cY16_g0_2
              have cY17_g0_3 : Y17.cell? ⟨pg0, 3, none⟩ = some (.int .i64 ag0q2) := GY17.keep cY16_g0_3
              have cY17_g0_4 : Y17.cell? ⟨pg0, 4, none⟩ = some (.int .i64 ag0q3) := GY17.keep cY16_g0_4
              have cY17_g0_5 : Y17.cell? ⟨pg0, 5, none⟩ = some (.string ag0q4) := GY17.keep cY16_g0_5
              have cY17_g0_6 : Y17.cell? ⟨pg0, 6, none⟩ = some (.slice ag0q5 lg0q5 cg0q5) := GY17.keep cY16_g0_6
              have cY17_g0_7 : Y17.cell? ⟨pg0, 7, none⟩ = some (.slice ag0q6 lg0q6 cg0q6) := GY17.keep cY16_g0_7
              have cY17_g0_8 : Y17.cell? ⟨pg0, 8, none⟩ = some (.slice ag0q7 lg0q7 cg0q7) := GY17.keep cY16_g0_8
              have zY17_ag := blk cY17_ag_0
              have zY17_at := blk cY17_at_0
              have zY17_ax := blk cY17_ax_0
              have zY17_w0 := blk cY17_w0_0
              have zY17_x0 := blk cY17_x0_0
              have zY17_x1 := blk cY17_x1_0
              have zY17_g0 := blk cY17_g0_0
              have rY17_w0 := Lib.hid (Rd.gr rY16_w0.out GY17)
              have rY17_g0 := Lib.hid (Rd.gr rY16_g0.out GY17)
              clear cY16_ag_0 cY16_ag_1 cY16_at_0 cY16_ax_0 cY16_ax_1 cY16_w0_0 cY16_w0_1 cY16_w0_2 cY16_w0_3 cY16_w0_4 cY16_w0_5 cY16_w0_6 cY16_w0_7 cY16_w0_8 cY16_x0_0 cY16_x0_1 cY16_x1_0 cY16_g0_0 cY16_g0_1 cY16_g0_2 cY16_g0_3 cY16_g0_4 cY16_g0_5 cY16_g0_6 cY16_g0_7 cY16_g0_8
              go_wp2_with fail
              refine (eqEntry_any _ _ _ _ yv yv _ rY17_h0.out rY17_w0.out).mono ?_
              rintro e Y18 ⟨rfl, gY18⟩
              rw [decide_eq_true rfl]
              have GY18 : Gr Y17 Y18 := ((by repeat (first | exact Gr.refl _ | apply Gr.ext | apply Gr.alloc | apply Gr.drew)) : Gr Y17 Y17).trans gY18
              have GWY18 : Gr w Y18 := GWY17.trans GY18
              have ZY18 : Y17.heap.size ≤ Y18.heap.size := GY18.size
              have cY18_ag_0 : Y18.cell? ⟨w.heap.size, 0, none⟩ = some (.slice gaq0 glq0 gcq0) := GY18.keep cY17_ag_0
              have cY18_ag_1 : Y18.cell? ⟨w.heap.size, 1, none⟩ = some (.slice gaq1 glq1 gcq1) := GY18.keep cY17_ag_1
              have cY18_at_0 : Y18.cell? ⟨w.heap.size + 1, 0, none⟩ = some (.slice taq0 tlq0 tcq0) := GY18.keep cY17_at_0
              have cY18_ax_0 : Y18.cell? ⟨w.heap.size + 1 + 1, 0, none⟩ = some (.int .i64 xaq0) := GY18.keep cY17_ax_0
              have cY18_ax_1 : Y18.cell? ⟨w.heap.size + 1 + 1, 1, none⟩ = some (.string xaq1) := GY18.keep cY17_ax_1
              have cY18_w0_0 : Y18.cell? ⟨pw0, 0, none⟩ = some (.int .i64 aw0q00) := GY18.keep cY17_w0_0
              have cY18_w0_1 : Y18.cell? ⟨pw0, 1, none⟩ = some (.string aw0q01) := GY18.keep cY17_w0_1
              have cY18_w0_2 : Y18.cell? ⟨pw0, 2, none⟩ = some (.int .i64 aw0q1) := GY18.keep cY17_w0_2
              have cY18_w0_3 : Y18.cell? ⟨pw0, 3, none⟩ = some (.int .i64 aw0q2) := GY18.keep cY17_w0_3
              have cY18_w0_4 : Y18.cell? ⟨pw0, 4, none⟩ = some (.int .i64 aw0q3) := GY18.keep cY17_w0_4
              have cY18_w0_5 : Y18.cell? ⟨pw0, 5, none⟩ = some (.string aw0q4) := GY18.keep cY17_w0_5
              have cY18_w0_6 : Y18.cell? ⟨pw0, 6, none⟩ = some (.slice aw0q5 lw0q5 cw0q5) := GY18.keep cY17_w0_6
              have cY18_w0_7 : Y18.cell? ⟨pw0, 7, none⟩ = some (.slice aw0q6 lw0q6 cw0q6) := GY18.keep cY17_w0_7
              have cY18_w0_8 : Y18.cell? ⟨pw0, 8, none⟩ = some (.slice aw0q7 lw0q7 cw0q7) := GY18.keep cY17_w0_8
              have cY18_x0_0 : Y18.cell? ⟨Y5.heap.size, 0, none⟩ = some (.slice ax0q0 lx0q0 cx0q0) := GY18.keep cY17_x0_0
              have cY18_x0_1 : Y18.cell? ⟨Y5.heap.size, 1, none⟩ = some (.slice ax0q1 lx0q1 cx0q1) := GY18.keep cY17_x0_1
              have cY18_x1_0 : Y18.cell? ⟨Y6.heap.size, 0, none⟩ = some (.slice ax1q0 lx1q0 cx1q0) := GY18.keep cY17_x1_0
              have cY18_g0_0 : Y18.cell? ⟨pg0, 0, none⟩ = some (.int .i64 ag0q00) := GY18.keep cY17_g0_0
              have cY18_g0_1 : Y18.cell? ⟨pg0, 1, none⟩ = some (.string ag0q01) := GY18.keep cY17_g0_1
              have cY18_g0_2 : Y18.cell? ⟨pg0, 2, none⟩ = some (.int .i64 ag0q1) := GY18.keep cY17_g0_2
              have cY18_g0_3 : Y18.cell? ⟨pg0, 3, none⟩ = some (.int .i64 ag0q2) := GY18.keep cY17_g0_3
              have cY18_g0_4 : Y18.cell? ⟨pg0, 4, none⟩ = some (.int .i64 ag0q3) := GY18.keep cY17_g0_4
              have cY18_g0_5 : Y18.cell? ⟨pg0, 5, none⟩ = some (.string ag0q4) := GY18.keep cY17_g0_5
              have cY18_g0_6 : Y18.cell? ⟨pg0, 6, none⟩ = some (.slice ag0q5 lg0q5 cg0q5) := GY18.keep cY17_g0_6
              have cY18_g0_7 : Y18.cell? ⟨pg0, 7, none⟩ = some (.slice ag0q6 lg0q6 cg0q6) := GY18.keep cY17_g0_7
              have cY18_g0_8 : Y18.cell? ⟨pg0, 8, none⟩ = some (.slice ag0q7 lg0q7 cg0q7) := GY18.keep cY17_g0_8
              have cY18_h0_0 : Y18.cell? ⟨ph0, 0, none⟩ = some (.int .i64 ah0q00) := GY18.keep cY17_h0_0
              have cY18_h0_1 : Y18.cell? ⟨ph0, 1, none⟩ = some (.string ah0q01) := GY18.keep cY17_h0_1
              have cY18_h0_2 : Y18.cell? ⟨ph0, 2, none⟩ = some (.int .i64 ah0q1) := GY18.keep cY17_h0_2
              have cY18_h0_3 : Y18.cell? ⟨ph0, 3, none⟩ = some (.int .i64 ah0q2) := GY18.keep cY17_h0_3
              have cY18_h0_4 : Y18.cell? ⟨ph0, 4, none⟩ = some (.int .i64 ah0q3) := GY18.keep cY17_h0_4
              have cY18_h0_5 : Y18.cell? ⟨ph0, 5, none⟩ = some (.string ah0q4) := GY18.keep cY17_h0_5
              have cY18_h0_6 : Y18.cell? ⟨ph0, 6, none⟩ = some (.slice ah0q5 lh0q5 ch0q5) := GY18.keep cY17_h0_6
              have cY18_h0_7 : Y18.cell? ⟨ph0, 7, none⟩ = some (.slice ah0q6 lh0q6 ch0q6) := GY18.keep cY17_h0_7
              have cY18_h0_8 : Y18.cell? ⟨ph0, 8, none⟩ = some (.slice ah0q7 lh0q7 ch0q7) := GY18.keep cY17_h0_8
              have zY18_ag := blk cY18_ag_0
              have zY18_at := blk cY18_at_0
              have zY18_ax := blk cY18_ax_0
              have zY18_w0 := blk cY18_w0_0
              have zY18_x0 := blk cY18_x0_0
              have zY18_x1 := blk cY18_x1_0
              have zY18_g0 := blk cY18_g0_0
              have zY18_h0 := blk cY18_h0_0
              have rY18_w0 := Lib.hid (Rd.gr rY17_w0.out GY18)
              have rY18_g0 := Lib.hid (Rd.gr rY17_g0.out GY18)
              have rY18_h0 := Lib.hid (Rd.gr rY17_h0.out GY18)
              clear cY17_ag_0 cY17_ag_1 cY17_at_0 cY17_ax_0 cY17_ax_1 cY17_w0_0 cY17_w0_1 cY17_w0_2 cY17_w0_3 cY17_w0_4 cY17_w0_5 cY17_w0_6 cY17_w0_7 cY17_w0_8 cY17_x0_0 cY17_x0_1 cY17_x1_0 cY17_g0_0 cY17_g0_1 cY17_g0_2 cY17_g0_3 cY17_g0_4 cY17_g0_5 cY17_g0_6 cY17_g0_7 cY17_g0_8 cY17_h0_0 cY17_h0_1 cY17_h0_2 cY17_h0_3 cY17_h0_4 cY17_h0_5 cY17_h0_6 cY17_h0_7 cY17_h0_8
              go_wp2_with fail
              refine (heldEntry_any _ _ yv 1 _ rY18_g0.out (by omega) MB1.out).mono ?_
              rintro e Y19 ⟨rfl, gY19⟩
              have GY19 : Gr Y18 Y19 := ((by repeat (first | exact Gr.refl _ | apply Gr.ext | apply Gr.alloc | apply Gr.drew)) : Gr Y18 Y18).trans gY19
              have GWY19 : Gr w Y19 := GWY18.trans GY19
              have ZY19 : Y18.heap.size ≤ Y19.heap.size := GY19.size
              have cY19_ag_0 : Y19.cell? ⟨w.heap.size, 0, none⟩ = some (.slice gaq0 glq0 gcq0) := GY19.keep cY18_ag_0
              have cY19_ag_1 : Y19.cell? ⟨w.heap.size, 1, none⟩ = some (.slice gaq1 glq1 gcq1) := GY19.keep cY18_ag_1
              have cY19_at_0 : Y19.cell? ⟨w.heap.size + 1, 0, none⟩ = some (.slice taq0 tlq0 tcq0) := GY19.keep cY18_at_0
              have cY19_ax_0 : Y19.cell? ⟨w.heap.size + 1 + 1, 0, none⟩ = some (.int .i64 xaq0) := GY19.keep cY18_ax_0
              have cY19_ax_1 : Y19.cell? ⟨w.heap.size + 1 + 1, 1, none⟩ = some (.string xaq1) := GY19.keep cY18_ax_1
              have cY19_w0_0 : Y19.cell? ⟨pw0, 0, none⟩ = some (.int .i64 aw0q00) := GY19.keep cY18_w0_0
              have cY19_w0_1 : Y19.cell? ⟨pw0, 1, none⟩ = some (.string aw0q01) := GY19.keep cY18_w0_1
              have cY19_w0_2 : Y19.cell? ⟨pw0, 2, none⟩ = some (.int .i64 aw0q1) := GY19.keep cY18_w0_2
              have cY19_w0_3 : Y19.cell? ⟨pw0, 3, none⟩ = some (.int .i64 aw0q2) := GY19.keep cY18_w0_3
              have cY19_w0_4 : Y19.cell? ⟨pw0, 4, none⟩ = some (.int .i64 aw0q3) := GY19.keep cY18_w0_4
              have cY19_w0_5 : Y19.cell? ⟨pw0, 5, none⟩ = some (.string aw0q4) := GY19.keep cY18_w0_5
              have cY19_w0_6 : Y19.cell? ⟨pw0, 6, none⟩ = some (.slice aw0q5 lw0q5 cw0q5) := GY19.keep cY18_w0_6
              have cY19_w0_7 : Y19.cell? ⟨pw0, 7, none⟩ = some (.slice aw0q6 lw0q6 cw0q6) := GY19.keep cY18_w0_7
              have cY19_w0_8 : Y19.cell? ⟨pw0, 8, none⟩ = some (.slice aw0q7 lw0q7 cw0q7) := GY19.keep cY18_w0_8
              have cY19_x0_0 : Y19.cell? ⟨Y5.heap.size, 0, none⟩ = some (.slice ax0q0 lx0q0 cx0q0) := GY19.keep cY18_x0_0
              have cY19_x0_1 : Y19.cell? ⟨Y5.heap.size, 1, none⟩ = some (.slice ax0q1 lx0q1 cx0q1) := GY19.keep cY18_x0_1
              have cY19_x1_0 : Y19.cell? ⟨Y6.heap.size, 0, none⟩ = some (.slice ax1q0 lx1q0 cx1q0) := GY19.keep cY18_x1_0
              have cY19_g0_0 : Y19.cell? ⟨pg0, 0, none⟩ = some (.int .i64 ag0q00) := GY19.keep cY18_g0_0
              have cY19_g0_1 : Y19.cell? ⟨pg0, 1, none⟩ = some (.string ag0q01) := GY19.keep cY18_g0_1
              have cY19_g0_2 : Y19.cell? ⟨pg0, 2, none⟩ = some (.int .i64 ag0q1) := GY19.keep cY18_g0_2
              have cY19_g0_3 : Y19.cell? ⟨pg0, 3, none⟩ = some (.int .i64 ag0q2) := GY19.keep cY18_g0_3
              have cY19_g0_4 : Y19.cell? ⟨pg0, 4, none⟩ = some (.int .i64 ag0q3) := GY19.keep cY18_g0_4
              have cY19_g0_5 : Y19.cell? ⟨pg0, 5, none⟩ = some (.string ag0q4) := GY19.keep cY18_g0_5
              have cY19_g0_6 : Y19.cell? ⟨pg0, 6, none⟩ = some (.slice ag0q5 lg0q5 cg0q5) := GY19.keep cY18_g0_6
              have cY19_g0_7 : Y19.cell? ⟨pg0, 7, none⟩ = some (.slice ag0q6 lg0q6 cg0q6) := GY19.keep cY18_g0_7
              have cY19_g0_8 : Y19.cell? ⟨pg0, 8, none⟩ = some (.slice ag0q7 lg0q7 cg0q7) := GY19.keep cY18_g0_8
              have cY19_h0_0 : Y19.cell? ⟨ph0, 0, none⟩ = some (.int .i64 ah0q00) := GY19.keep cY18_h0_0
              have cY19_h0_1 : Y19.cell? ⟨ph0, 1, none⟩ = some (.string ah0q01) := GY19.keep cY18_h0_1
              have cY19_h0_2 : Y19.cell? ⟨ph0, 2, none⟩ = some (.int .i64 ah0q1) := GY19.keep cY18_h0_2
              have cY19_h0_3 : Y19.cell? ⟨ph0, 3, none⟩ = some (.int .i64 ah0q2) := GY19.keep cY18_h0_3
              have cY19_h0_4 : Y19.cell? ⟨ph0, 4, none⟩ = some (.int .i64 ah0q3) := GY19.keep cY18_h0_4
              have cY19_h0_5 : Y19.cell? ⟨ph0, 5, none⟩ = some (.string ah0q4) := GY19.keep cY18_h0_5
              have cY19_h0_6 : Y19.cell? ⟨ph0, 6, none⟩ = some (.slice ah0q5 lh0q5 ch0q5) := GY19.keep cY18_h0_6
              have cY19_h0_7 : Y19.cell? ⟨ph0, 7, none⟩ = some (.slice ah0q6 lh0q6 ch0q6) := GY19.keep cY18_h0_7
              have cY19_h0_8 : Y19.cell? ⟨ph0, 8, none⟩ = some (.slice ah0q7 lh0q7 ch0q7) := GY19.keep cY18_h0_8
              have zY19_ag := blk cY19_ag_0
              have zY19_at := blk cY19_at_0
              have zY19_ax := blk cY19_ax_0
              have zY19_w0 := blk cY19_w0_0
              have zY19_x0 := blk cY19_x0_0
              have zY19_x1 := blk cY19_x1_0
              have zY19_g0 := blk cY19_g0_0
              have zY19_h0 := blk cY19_h0_0
              have rY19_w0 := Lib.hid (Rd.gr rY18_w0.out GY19)
              have rY19_g0 := Lib.hid (Rd.gr rY18_g0.out GY19)
              have rY19_h0 := Lib.hid (Rd.gr rY18_h0.out GY19)
              clear cY18_ag_0 cY18_ag_1 cY18_at_0 cY18_ax_0 cY18_ax_1 cY18_w0_0 cY18_w0_1 cY18_w0_2 cY18_w0_3 cY18_w0_4 cY18_w0_5 cY18_w0_6 cY18_w0_7 cY18_w0_8 cY18_x0_0 cY18_x0_1 cY18_x1_0 cY18_g0_0 cY18_g0_1 cY18_g0_2 cY18_g0_3 cY18_g0_4 cY18_g0_5 cY18_g0_6 cY18_g0_7 cY18_g0_8 cY18_h0_0 cY18_h0_1 cY18_h0_2 cY18_h0_3 cY18_h0_4 cY18_h0_5 cY18_h0_6 cY18_h0_7 cY18_h0_8
              go_wp2_with fail
              go_ret
              exact ⟨rfl, ((GWY19).trans (by repeat (first | exact Gr.refl _ | apply Gr.ext | apply Gr.alloc | apply Gr.drew)))⟩
end Go.Proofs.YtbfmeiooeaaibaaGreat
