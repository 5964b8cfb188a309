/- How much the evaluations weigh that are not justified. The walk of the statement on UnjustifiedOf. Made by mk_lawg.py. No condition. -/
import Derived.Test.YtbfmeiooeaaibaaGreatXUnj
import Derived.Test.YtbfmeiooeaaibaaGreatXJS
import Derived.Test.YtbfmeiooeaaibaaGreatXMarkG
import Derived.Test.YtbfmeiooeaaibaaGreatXMarkE
import Derived.Test.YtbfmeiooeaaibaaGreatIntsC
import Derived.Deep.RegionHeld3
import Derived.Deep.DeepCutAuto
namespace Go.Proofs.YtbfmeiooeaaibaaGreat
open Go.RowKit
variable {d : Nat}

theorem wtL_filter {α : Type} (f : α → Nat) (p : α → Bool) (xs : List α) : wtL f (xs.filter p) ≤ wtL f xs := by
  induction xs with
  | nil => simp
  | cons x xs ih =>
    rw [List.filter_cons]
    split <;> simp only [wtL, List.map_cons, List.sum_cons, List.length_cons] at * <;> omega
theorem unjOf_wt {g : GGrammar d} {t : List GNode} {old now : GMemo} (h : wtMemo now ≤ 1048576) : wtInstanceS (unjOf g t old now) ≤ 1048576 := by
  have h1 : wtEntryS now.1 + wtInstanceS now.2 ≤ 1048576 := h
  have h2 : wtInstanceS (unjOf g t old now) ≤ wtInstanceS now.2 := wtL_filter wtInstance _ now.2
  omega
end Go.Proofs.YtbfmeiooeaaibaaGreat

namespace Go.Proofs.YtbfmeiooeaaibaaGreat
open Go.RowKit
variable {d : Nat}

theorem less_ok {L : Int} {n : Nat} (h : ¬ less L n < 0) : (n : Int) ≤ L := by
  unfold less at h
  split at h <;> omega

set_option maxRecDepth 10000 in
set_option maxHeartbeats 16000000 in
theorem lawUnj_any (fpg fpt fpp fpm : List Nat) (cg : Array Value) (ct : Array Value) (cp : Array Value) (cm : Array Value) (g : (GGrammar d)) (t : GTree) (p : GMemo) (m : GMemo) (w : World) (hg : Rd.rd fpg w cg.toList g) (ht : Rd.rd fpt w ct.toList t) (hp : Rd.rd fpp w cp.toList p) (hm : Rd.rd fpm w cm.toList m) :
   Calls Tryz.prog 5 #[.agg cg, .agg ct, .agg cp, .agg cm] w fun e w' => e = .returned (.bool true) ∧ Gr w w' := by
 have HG := Lib.hid hg
 have HT := Lib.hid ht
 have HP := Lib.hid hp
 have HM := Lib.hid hm
 obtain ⟨gaq0, glq0, gcq0, gaq1, glq1, gcq1, rfl⟩ := rdGrammar_shape hg
 clear hg
 obtain ⟨taq0, tlq0, tcq0, rfl⟩ := rdTree_shape ht
 clear ht
 obtain ⟨paq0, plq0, pcq0, paq1, plq1, pcq1, rfl⟩ := rdMemo_shape hp
 clear hp
 obtain ⟨maq0, mlq0, mcq0, maq1, mlq1, mcq1, rfl⟩ := rdMemo_shape hm
 clear hm
 by_cases hs0 : less 1048576 (wtGrammar g) < 0
 · skip
   have HS0 := Lib.hid hs0
   clear hs0
   go_enter Tryz.func5, Tryz.ntmps5
   go_wp2_with fail
   refine (szGrammar_any _ _ g _ _ (Rd.gr HG.out (by repeat (first | exact Gr.refl _ | apply Gr.ext | apply Gr.alloc | apply Gr.drew))) (by omega) (by omega)).mono ?_
   rintro e w' ⟨rfl, z0, rfl⟩
   have hs0 := HS0.out
   go_wp2_with fail
   go_ret
   exact ⟨rfl, (by repeat (first | exact Gr.refl _ | apply Gr.ext | apply Gr.alloc | apply Gr.drew))⟩
 have wtg : wtGrammar g ≤ 1048576 := by have := less_ok hs0; omega
 have bb0 := less_le 1048576 (wtGrammar g) (by omega)
 by_cases hs1 : less (less 1048576 (wtGrammar g)) (wtTree t) < 0
 · skip
   have HS0 := Lib.hid hs0
   have HS1 := Lib.hid hs1
   clear hs0 hs1
   go_enter Tryz.func5, Tryz.ntmps5
   go_wp2_with fail
   refine (szGrammar_any _ _ g _ _ (Rd.gr HG.out (by repeat (first | exact Gr.refl _ | apply Gr.ext | apply Gr.alloc | apply Gr.drew))) (by omega) (by omega)).mono ?_
   rintro e w' ⟨rfl, z0, rfl⟩
   have hs0 := HS0.out
   go_wp2_with fail
   refine (szTree_any _ _ t _ _ (Rd.gr HT.out (by repeat (first | exact Gr.refl _ | apply Gr.ext | apply Gr.alloc | apply Gr.drew))) (by omega) (by omega)).mono ?_
   rintro e w' ⟨rfl, z1, rfl⟩
   have hs1 := HS1.out
   go_wp2_with fail
   go_ret
   exact ⟨rfl, (by repeat (first | exact Gr.refl _ | apply Gr.ext | apply Gr.alloc | apply Gr.drew))⟩
 have wtt : wtTree t ≤ 1048576 := by have := less_ok hs1; omega
 have bb1 := less_le (less 1048576 (wtGrammar g)) (wtTree t) (by omega)
 by_cases hs2 : less (less (less 1048576 (wtGrammar g)) (wtTree t)) (wtMemo p) < 0
 · skip
   have HS0 := Lib.hid hs0
   have HS1 := Lib.hid hs1
   have HS2 := Lib.hid hs2
   clear hs0 hs1 hs2
   go_enter Tryz.func5, Tryz.ntmps5
   go_wp2_with fail
   refine (szGrammar_any _ _ g _ _ (Rd.gr HG.out (by repeat (first | exact Gr.refl _ | apply Gr.ext | apply Gr.alloc | apply Gr.drew))) (by omega) (by omega)).mono ?_
   rintro e w' ⟨rfl, z0, rfl⟩
   have hs0 := HS0.out
   go_wp2_with fail
   refine (szTree_any _ _ t _ _ (Rd.gr HT.out (by repeat (first | exact Gr.refl _ | apply Gr.ext | apply Gr.alloc | apply Gr.drew))) (by omega) (by omega)).mono ?_
   rintro e w' ⟨rfl, z1, rfl⟩
   have hs1 := HS1.out
   go_wp2_with fail
   refine (szMemo_any _ _ p _ _ (Rd.gr HP.out (by repeat (first | exact Gr.refl _ | apply Gr.ext | apply Gr.alloc | apply Gr.drew))) (by omega) (by omega)).mono ?_
   rintro e w' ⟨rfl, z2, rfl⟩
   have hs2 := HS2.out
   go_wp2_with fail
   go_ret
   exact ⟨rfl, (by repeat (first | exact Gr.refl _ | apply Gr.ext | apply Gr.alloc | apply Gr.drew))⟩
 have wtp : wtMemo p ≤ 1048576 := by have := less_ok hs2; omega
 have bb2 := less_le (less (less 1048576 (wtGrammar g)) (wtTree t)) (wtMemo p) (by omega)
 by_cases hs3 : less (less (less (less 1048576 (wtGrammar g)) (wtTree t)) (wtMemo p)) (wtMemo m) < 0
 · skip
   have HS0 := Lib.hid hs0
   have HS1 := Lib.hid hs1
   have HS2 := Lib.hid hs2
   have HS3 := Lib.hid hs3
   clear hs0 hs1 hs2 hs3
   go_enter Tryz.func5, Tryz.ntmps5
   go_wp2_with fail
   refine (szGrammar_any _ _ g _ _ (Rd.gr HG.out (by repeat (first | exact Gr.refl _ | apply Gr.ext | apply Gr.alloc | apply Gr.drew))) (by omega) (by omega)).mono ?_
   rintro e w' ⟨rfl, z0, rfl⟩
   have hs0 := HS0.out
   go_wp2_with fail
   refine (szTree_any _ _ t _ _ (Rd.gr HT.out (by repeat (first | exact Gr.refl _ | apply Gr.ext | apply Gr.alloc | apply Gr.drew))) (by omega) (by omega)).mono ?_
   rintro e w' ⟨rfl, z1, rfl⟩
   have hs1 := HS1.out
   go_wp2_with fail
   refine (szMemo_any _ _ p _ _ (Rd.gr HP.out (by repeat (first | exact Gr.refl _ | apply Gr.ext | apply Gr.alloc | apply Gr.drew))) (by omega) (by omega)).mono ?_
   rintro e w' ⟨rfl, z2, rfl⟩
   have hs2 := HS2.out
   go_wp2_with fail
   refine (szMemo_any _ _ m _ _ (Rd.gr HM.out (by repeat (first | exact Gr.refl _ | apply Gr.ext | apply Gr.alloc | apply Gr.drew))) (by omega) (by omega)).mono ?_
   rintro e w' ⟨rfl, z3, rfl⟩
   have hs3 := HS3.out
   go_wp2_with fail
   go_ret
   exact ⟨rfl, (by repeat (first | exact Gr.refl _ | apply Gr.ext | apply Gr.alloc | apply Gr.drew))⟩
 have wtm : wtMemo m ≤ 1048576 := by have := less_ok hs3; omega
 have bb3 := less_le (less (less (less 1048576 (wtGrammar g)) (wtTree t)) (wtMemo p)) (wtMemo m) (by omega)
 have HS0 := Lib.hid hs0
 have HS1 := Lib.hid hs1
 have HS2 := Lib.hid hs2
 have HS3 := Lib.hid hs3
 clear hs0 hs1 hs2 hs3
 obtain ⟨yv, hyv⟩ : ∃ y, y = unjOf g t p m := ⟨_, rfl⟩
 have hwy : wtInstanceS yv ≤ 1048576 := by rw [hyv]; exact unjOf_wt wtm
 have HYV := Lib.hid hyv
 clear hyv
 go_enter Tryz.func5, Tryz.ntmps5
 go_wp2_with fail
 refine (szGrammar_any _ _ g _ _ (Rd.gr HG.out (by repeat (first | exact Gr.refl _ | apply Gr.ext | apply Gr.alloc | apply Gr.drew))) (by omega) (by omega)).mono ?_
 rintro e Y1 ⟨rfl, gY1⟩
 have hs0 := HS0.out
 have GY1 : Gr w Y1 := ((by repeat (first | exact Gr.refl _ | apply Gr.ext | apply Gr.alloc | apply Gr.drew)) : Gr w ((((w.alloc (.cells #[.slice gaq0 glq0 gcq0, .slice gaq1 glq1 gcq1] 25)).alloc (.cells #[.slice taq0 tlq0 tcq0] 28)).alloc (.cells #[.slice paq0 plq0 pcq0, .slice paq1 plq1 pcq1] 60)).alloc (.cells #[.slice maq0 mlq0 mcq0, .slice maq1 mlq1 mcq1] 60))).trans gY1
 have GWY1 : Gr w Y1 := GY1
 have ZY1 : w.heap.size ≤ Y1.heap.size := GY1.size
 have cY1_ag_0 : Y1.cell? ⟨w.heap.size, 0, none⟩ = some (.slice gaq0 glq0 gcq0) := (((by repeat (first | exact Gr.refl _ | apply Gr.ext | apply Gr.alloc | apply Gr.drew)) : Gr (w.alloc (.cells #[.slice gaq0 glq0 gcq0, .slice gaq1 glq1 gcq1] 25)) ((((w.alloc (.cells #[.slice gaq0 glq0 gcq0, .slice gaq1 glq1 gcq1] 25)).alloc (.cells #[.slice taq0 tlq0 tcq0] 28)).alloc (.cells #[.slice paq0 plq0 pcq0, .slice paq1 plq1 pcq1] 60)).alloc (.cells #[.slice maq0 mlq0 mcq0, .slice maq1 mlq1 mcq1] 60))).trans gY1).keep (box_cell (A := _) (by simp) rfl : ((w.alloc (.cells #[.slice gaq0 glq0 gcq0, .slice gaq1 glq1 gcq1] 25))).cell? ⟨w.heap.size, 0, none⟩ = some (.slice gaq0 glq0 gcq0))
 have cY1_ag_1 : Y1.cell? ⟨w.heap.size, 1, none⟩ = some (.slice gaq1 glq1 gcq1) := (((by repeat (first | exact Gr.refl _ | apply Gr.ext | apply Gr.alloc | apply Gr.drew)) : Gr (w.alloc (.cells #[.slice gaq0 glq0 gcq0, .slice gaq1 glq1 gcq1] 25)) ((((w.alloc (.cells #[.slice gaq0 glq0 gcq0, .slice gaq1 glq1 gcq1] 25)).alloc (.cells #[.slice taq0 tlq0 tcq0] 28)).alloc (.cells #[.slice paq0 plq0 pcq0, .slice paq1 plq1 pcq1] 60)).alloc (.cells #[.slice maq0 mlq0 mcq0, .slice maq1 mlq1 mcq1] 60))).trans gY1).keep (box_cell (A := _) (by simp) rfl : ((w.alloc (.cells #[.slice gaq0 glq0 gcq0, .slice gaq1 glq1 gcq1] 25))).cell? ⟨w.heap.size, 1, none⟩ = some (.slice gaq1 glq1 gcq1))
 have cY1_at_0 : Y1.cell? ⟨w.heap.size + 1, 0, none⟩ = some (.slice taq0 tlq0 tcq0) := (((by repeat (first | exact Gr.refl _ | apply Gr.ext | apply Gr.alloc | apply Gr.drew)) : Gr ((w.alloc (.cells #[.slice gaq0 glq0 gcq0, .slice gaq1 glq1 gcq1] 25)).alloc (.cells #[.slice taq0 tlq0 tcq0] 28)) ((((w.alloc (.cells #[.slice gaq0 glq0 gcq0, .slice gaq1 glq1 gcq1] 25)).alloc (.cells #[.slice taq0 tlq0 tcq0] 28)).alloc (.cells #[.slice paq0 plq0 pcq0, .slice paq1 plq1 pcq1] 60)).alloc (.cells #[.slice maq0 mlq0 mcq0, .slice maq1 mlq1 mcq1] 60))).trans gY1).keep (box_cell (A := _) (by simp) rfl : (((w.alloc (.cells #[.slice gaq0 glq0 gcq0, .slice gaq1 glq1 gcq1] 25)).alloc (.cells #[.slice taq0 tlq0 tcq0] 28))).cell? ⟨w.heap.size + 1, 0, none⟩ = some (.slice taq0 tlq0 tcq0))
 have cY1_ap_0 : Y1.cell? ⟨w.heap.size + 1 + 1, 0, none⟩ = some (.slice paq0 plq0 pcq0) := (((by repeat (first | exact Gr.refl _ | apply Gr.ext | apply Gr.alloc | apply Gr.drew)) : Gr (((w.alloc (.cells #[.slice gaq0 glq0 gcq0, .slice gaq1 glq1 gcq1] 25)).alloc (.cells #[.slice taq0 tlq0 tcq0] 28)).alloc (.cells #[.slice paq0 plq0 pcq0, .slice paq1 plq1 pcq1] 60)) ((((w.alloc (.cells #[.slice gaq0 glq0 gcq0, .slice gaq1 glq1 gcq1] 25)).alloc (.cells #[.slice taq0 tlq0 tcq0] 28)).alloc (.cells #[.slice paq0 plq0 pcq0, .slice paq1 plq1 pcq1] 60)).alloc (.cells #[.slice maq0 mlq0 mcq0, .slice maq1 mlq1 mcq1] 60))).trans gY1).keep (box_cell (A := _) (by simp) rfl : ((((w.alloc (.cells #[.slice gaq0 glq0 gcq0, .slice gaq1 glq1 gcq1] 25)).alloc (.cells #[.slice taq0 tlq0 tcq0] 28)).alloc (.cells #[.slice paq0 plq0 pcq0, .slice paq1 plq1 pcq1] 60))).cell? ⟨w.heap.size + 1 + 1, 0, none⟩ = some (.slice paq0 plq0 pcq0))
 have cY1_ap_1 : Y1.cell? ⟨w.heap.size + 1 + 1, 1, none⟩ = some (.slice paq1 plq1 pcq1) := (((by repeat (first | exact Gr.refl _ | apply Gr.ext | apply Gr.alloc | apply Gr.drew)) : Gr (((w.alloc (.cells #[.slice gaq0 glq0 gcq0, .slice gaq1 glq1 gcq1] 25)).alloc (.cells #[.slice taq0 tlq0 tcq0] 28)).alloc (.cells #[.slice paq0 plq0 pcq0, .slice paq1 plq1 pcq1] 60)) ((((w.alloc (.cells #[.slice gaq0 glq0 gcq0, .slice gaq1 glq1 gcq1] 25)).alloc (.cells #[.slice taq0 tlq0 tcq0] 28)).alloc (.cells #[.slice paq0 plq0 pcq0, .slice paq1 plq1 pcq1] 60)).alloc (.cells #[.slice maq0 mlq0 mcq0, .slice maq1 mlq1 mcq1] 60))).trans gY1).keep (box_cell (A := _) (by simp) rfl : ((((w.alloc (.cells #[.slice gaq0 glq0 gcq0, .slice gaq1 glq1 gcq1] 25)).alloc (.cells #[.slice taq0 tlq0 tcq0] 28)).alloc (.cells #[.slice paq0 plq0 pcq0, .slice paq1 plq1 pcq1] 60))).cell? ⟨w.heap.size + 1 + 1, 1, none⟩ = some (.slice paq1 plq1 pcq1))
 have cY1_am_0 : Y1.cell? ⟨w.heap.size + 1 + 1 + 1, 0, none⟩ = some (.slice maq0 mlq0 mcq0) := (((by repeat (first | exact Gr.refl _ | apply Gr.ext | apply Gr.alloc | apply Gr.drew)) : Gr ((((w.alloc (.cells #[.slice gaq0 glq0 gcq0, .slice gaq1 glq1 gcq1] 25)).alloc (.cells #[.slice taq0 tlq0 tcq0] 28)).alloc (.cells #[.slice paq0 plq0 pcq0, .slice paq1 plq1 pcq1] 60)).alloc (.cells #[.slice maq0 mlq0 mcq0, .slice maq1 mlq1 mcq1] 60)) ((((w.alloc (.cells #[.slice gaq0 glq0 gcq0, .slice gaq1 glq1 gcq1] 25)).alloc (.cells #[.slice taq0 tlq0 tcq0] 28)).alloc (.cells #[.slice paq0 plq0 pcq0, .slice paq1 plq1 pcq1] 60)).alloc (.cells #[.slice maq0 mlq0 mcq0, .slice maq1 mlq1 mcq1] 60))).trans gY1).keep (box_cell (A := _) (by simp) rfl : (((((w.alloc (.cells #[.slice gaq0 glq0 gcq0, .slice gaq1 glq1 gcq1] 25)).alloc (.cells #[.slice taq0 tlq0 tcq0] 28)).alloc (.cells #[.slice paq0 plq0 pcq0, .slice paq1 plq1 pcq1] 60)).alloc (.cells #[.slice maq0 mlq0 mcq0, .slice maq1 mlq1 mcq1] 60))).cell? ⟨w.heap.size + 1 + 1 + 1, 0, none⟩ = some (.slice maq0 mlq0 mcq0))
 have cY1_am_1 : Y1.cell? ⟨w.heap.size + 1 + 1 + 1, 1, none⟩ = some (.slice maq1 mlq1 mcq1) := (((by repeat (first | exact Gr.refl _ | apply Gr.ext | apply Gr.alloc | apply Gr.drew)) : Gr ((((w.alloc (.cells #[.slice gaq0 glq0 gcq0, .slice gaq1 glq1 gcq1] 25)).alloc (.cells #[.slice taq0 tlq0 tcq0] 28)).alloc (.cells #[.slice paq0 plq0 pcq0, .slice paq1 plq1 pcq1] 60)).alloc (.cells #[.slice maq0 mlq0 mcq0, .slice maq1 mlq1 mcq1] 60)) ((((w.alloc (.cells #[.slice gaq0 glq0 gcq0, .slice gaq1 glq1 gcq1] 25)).alloc (.cells #[.slice taq0 tlq0 tcq0] 28)).alloc (.cells #[.slice paq0 plq0 pcq0, .slice paq1 plq1 pcq1] 60)).alloc (.cells #[.slice maq0 mlq0 mcq0, .slice maq1 mlq1 mcq1] 60))).trans gY1).keep (box_cell (A := _) (by simp) rfl : (((((w.alloc (.cells #[.slice gaq0 glq0 gcq0, .slice gaq1 glq1 gcq1] 25)).alloc (.cells #[.slice taq0 tlq0 tcq0] 28)).alloc (.cells #[.slice paq0 plq0 pcq0, .slice paq1 plq1 pcq1] 60)).alloc (.cells #[.slice maq0 mlq0 mcq0, .slice maq1 mlq1 mcq1] 60))).cell? ⟨w.heap.size + 1 + 1 + 1, 1, none⟩ = some (.slice maq1 mlq1 mcq1))
 have zY1_ag := blk cY1_ag_0
 have zY1_at := blk cY1_at_0
 have zY1_ap := blk cY1_ap_0
 have zY1_am := blk cY1_am_0
 go_wp2_with fail
 refine (szTree_any _ _ t _ _ (Rd.gr HT.out GWY1) (by omega) (by omega)).mono ?_
 rintro e Y2 ⟨rfl, gY2⟩
 have hs1 := HS1.out
 have GY2 : Gr Y1 Y2 := ((Gr.refl _) : Gr Y1 Y1).trans gY2
 have GWY2 : Gr w Y2 := GWY1.trans GY2
 have ZY2 : Y1.heap.size ≤ Y2.heap.size := GY2.size
 have cY2_ag_0 : Y2.cell? ⟨w.heap.size, 0, none⟩ = some (.slice gaq0 glq0 gcq0) := GY2.keep cY1_ag_0
 have cY2_ag_1 : Y2.cell? ⟨w.heap.size, 1, none⟩ = some (.slice gaq1 glq1 gcq1) := GY2.keep cY1_ag_1
 have cY2_at_0 : Y2.cell? ⟨w.heap.size + 1, 0, none⟩ = some (.slice taq0 tlq0 tcq0) := GY2.keep cY1_at_0
 have cY2_ap_0 : Y2.cell? ⟨w.heap.size + 1 + 1, 0, none⟩ = some (.slice paq0 plq0 pcq0) := GY2.keep cY1_ap_0
 have cY2_ap_1 : Y2.cell? ⟨w.heap.size + 1 + 1, 1, none⟩ = some (.slice paq1 plq1 pcq1) := GY2.keep cY1_ap_1
 have cY2_am_0 : Y2.cell? ⟨w.heap.size + 1 + 1 + 1, 0, none⟩ = some (.slice maq0 mlq0 mcq0) := GY2.keep cY1_am_0
 have cY2_am_1 : Y2.cell? ⟨w.heap.size + 1 + 1 + 1, 1, none⟩ = some (.slice maq1 mlq1 mcq1) := GY2.keep cY1_am_1
 have zY2_ag := blk cY2_ag_0
 have zY2_at := blk cY2_at_0
 have zY2_ap := blk cY2_ap_0
 have zY2_am := blk cY2_am_0
 clear cY1_ag_0 cY1_ag_1 cY1_at_0 cY1_ap_0 cY1_ap_1 cY1_am_0 cY1_am_1
 go_wp2_with fail
 refine (szMemo_any _ _ p _ _ (Rd.gr HP.out GWY2) (by omega) (by omega)).mono ?_
 rintro e Y3 ⟨rfl, gY3⟩
 have hs2 := HS2.out
 have GY3 : Gr Y2 Y3 := ((Gr.refl _) : Gr Y2 Y2).trans gY3
 have GWY3 : Gr w Y3 := GWY2.trans GY3
 have ZY3 : Y2.heap.size ≤ Y3.heap.size := GY3.size
 have cY3_ag_0 : Y3.cell? ⟨w.heap.size, 0, none⟩ = some (.slice gaq0 glq0 gcq0) := GY3.keep cY2_ag_0
 have cY3_ag_1 : Y3.cell? ⟨w.heap.size, 1, none⟩ = some (.slice gaq1 glq1 gcq1) := GY3.keep cY2_ag_1
 have cY3_at_0 : Y3.cell? ⟨w.heap.size + 1, 0, none⟩ = some (.slice taq0 tlq0 tcq0) := GY3.keep cY2_at_0
 have cY3_ap_0 : Y3.cell? ⟨w.heap.size + 1 + 1, 0, none⟩ = some (.slice paq0 plq0 pcq0) := GY3.keep cY2_ap_0
 have cY3_ap_1 : Y3.cell? ⟨w.heap.size + 1 + 1, 1, none⟩ = some (.slice paq1 plq1 pcq1) := GY3.keep cY2_ap_1
 have cY3_am_0 : Y3.cell? ⟨w.heap.size + 1 + 1 + 1, 0, none⟩ = some (.slice maq0 mlq0 mcq0) := GY3.keep cY2_am_0
 have cY3_am_1 : Y3.cell? ⟨w.heap.size + 1 + 1 + 1, 1, none⟩ = some (.slice maq1 mlq1 mcq1) := GY3.keep cY2_am_1
 have zY3_ag := blk cY3_ag_0
 have zY3_at := blk cY3_at_0
 have zY3_ap := blk cY3_ap_0
 have zY3_am := blk cY3_am_0
 clear cY2_ag_0 cY2_ag_1 cY2_at_0 cY2_ap_0 cY2_ap_1 cY2_am_0 cY2_am_1
 go_wp2_with fail
 refine (szMemo_any _ _ m _ _ (Rd.gr HM.out GWY3) (by omega) (by omega)).mono ?_
 rintro e Y4 ⟨rfl, gY4⟩
 have hs3 := HS3.out
 have GY4 : Gr Y3 Y4 := ((Gr.refl _) : Gr Y3 Y3).trans gY4
 have GWY4 : Gr w Y4 := GWY3.trans GY4
 have ZY4 : Y3.heap.size ≤ Y4.heap.size := GY4.size
 have cY4_ag_0 : Y4.cell? ⟨w.heap.size, 0, none⟩ = some (.slice gaq0 glq0 gcq0) := GY4.keep cY3_ag_0
 have cY4_ag_1 : Y4.cell? ⟨w.heap.size, 1, none⟩ = some (.slice gaq1 glq1 gcq1) := GY4.keep cY3_ag_1
 have cY4_at_0 : Y4.cell? ⟨w.heap.size + 1, 0, none⟩ = some (.slice taq0 tlq0 tcq0) := GY4.keep cY3_at_0
 have cY4_ap_0 : Y4.cell? ⟨w.heap.size + 1 + 1, 0, none⟩ = some (.slice paq0 plq0 pcq0) := GY4.keep cY3_ap_0
 have cY4_ap_1 : Y4.cell? ⟨w.heap.size + 1 + 1, 1, none⟩ = some (.slice paq1 plq1 pcq1) := GY4.keep cY3_ap_1
 have cY4_am_0 : Y4.cell? ⟨w.heap.size + 1 + 1 + 1, 0, none⟩ = some (.slice maq0 mlq0 mcq0) := GY4.keep cY3_am_0
 have cY4_am_1 : Y4.cell? ⟨w.heap.size + 1 + 1 + 1, 1, none⟩ = some (.slice maq1 mlq1 mcq1) := GY4.keep cY3_am_1
 have zY4_ag := blk cY4_ag_0
 have zY4_at := blk cY4_at_0
 have zY4_ap := blk cY4_ap_0
 have zY4_am := blk cY4_am_0
 clear cY3_ag_0 cY3_ag_1 cY3_at_0 cY3_ap_0 cY3_ap_1 cY3_am_0 cY3_am_1
 go_wp2_with fail
 clear hs0 hs1 hs2 hs3
 have kcY4_ag_0 : ∀ w' : World, Gr Y4 w' → w'.cell? ⟨w.heap.size, 0, none⟩ = some (.slice gaq0 glq0 gcq0) := fun w' h => h.keep cY4_ag_0
 have kcY4_ag_1 : ∀ w' : World, Gr Y4 w' → w'.cell? ⟨w.heap.size, 1, none⟩ = some (.slice gaq1 glq1 gcq1) := fun w' h => h.keep cY4_ag_1
 have kcY4_at_0 : ∀ w' : World, Gr Y4 w' → w'.cell? ⟨w.heap.size + 1, 0, none⟩ = some (.slice taq0 tlq0 tcq0) := fun w' h => h.keep cY4_at_0
 have kcY4_ap_0 : ∀ w' : World, Gr Y4 w' → w'.cell? ⟨w.heap.size + 1 + 1, 0, none⟩ = some (.slice paq0 plq0 pcq0) := fun w' h => h.keep cY4_ap_0
 have kcY4_ap_1 : ∀ w' : World, Gr Y4 w' → w'.cell? ⟨w.heap.size + 1 + 1, 1, none⟩ = some (.slice paq1 plq1 pcq1) := fun w' h => h.keep cY4_ap_1
 have kcY4_am_0 : ∀ w' : World, Gr Y4 w' → w'.cell? ⟨w.heap.size + 1 + 1 + 1, 0, none⟩ = some (.slice maq0 mlq0 mcq0) := fun w' h => h.keep cY4_am_0
 have kcY4_am_1 : ∀ w' : World, Gr Y4 w' → w'.cell? ⟨w.heap.size + 1 + 1 + 1, 1, none⟩ = some (.slice maq1 mlq1 mcq1) := fun w' h => h.keep cY4_am_1
 go_region_held3 (fun w' => Gr Y4 w') (first | assumption | exact Gr.drew (Gr.refl _) | exact Gr.ext (by assumption) _)
   (first
     | (go_at_call_of 10 gaq0; refine (toGrammar_any _ _ g _ (Rd.gr HG.out (GWY4.trans (by assumption))) wtg).mono ?_; rintro e w' ⟨ds0, ff0, rfl, ss0, fr0, ex0, rfl⟩)
     | (go_at_call_of 11 taq0; refine (toTree_any _ _ t _ (Rd.gr HT.out (GWY4.trans (by assumption))) wtt).mono ?_; rintro e w' ⟨ds1, ff1, rfl, ss1, fr1, ex1, rfl⟩)
     | (go_at_call_of 23 paq0; refine (toMemo_any _ _ p _ (Rd.gr HP.out (GWY4.trans (by assumption))) wtp).mono ?_; rintro e w' ⟨ds2, ff2, rfl, ss2, fr2, ex2, rfl⟩)
     | (go_at_call_of 23 maq0; refine (toMemo_any _ _ m _ (Rd.gr HM.out (GWY4.trans (by assumption))) wtm).mono ?_; rintro e w' ⟨ds3, ff3, rfl, ss3, fr3, ex3, rfl⟩)
     | (go_at_call 26; refine (specUnj_any g t p m _ (Rd.gr ss0 (by repeat (first | exact Gr.refl _ | apply Gr.ext | apply Gr.alloc | apply Gr.drew))) (Rd.gr ss1 (by repeat (first | exact Gr.refl _ | apply Gr.ext | apply Gr.alloc | apply Gr.drew))) (Rd.gr ss2 (by repeat (first | exact Gr.refl _ | apply Gr.ext | apply Gr.alloc | apply Gr.drew))) (Rd.gr ss3 (by repeat (first | exact Gr.refl _ | apply Gr.ext | apply Gr.alloc | apply Gr.drew))) wtg wtt wtp wtm).mono ?_; rintro e w' ⟨vw0, fw0, rfl, sw0, hfw0, exz, rfl⟩; rw [← HYV.out] at sw0; clear ss0 fr0 ss1 fr1 ss2 fr2 ss3 fr3))
 have hY5 : Gr Y4 (((((Y4.drew.ext ex0).ext ex1).ext ex2).ext ex3).ext exz) := by assumption
 have frw0 : Fresh Y4 fw0 := hfw0.of_le (Gr.size (by repeat (first | exact Gr.refl _ | apply Gr.ext | apply Gr.alloc | apply Gr.drew)))
 clear hfw0
 generalize (((((Y4.drew.ext ex0).ext ex1).ext ex2).ext ex3).ext exz) = Y5 at hY5 sw0 ⊢
 clear kcY4_ag_0 kcY4_ag_1 kcY4_at_0 kcY4_ap_0 kcY4_ap_1 kcY4_am_0 kcY4_am_1
 obtain ⟨aw0, cw0, rfl, -, -, -⟩ := sw0.open
 have F_w0 : Hid (fw0.Nodup ∧ ∀ b ∈ fw0, Y4.heap.size + 0 ≤ b) := Lib.hid ⟨frw0.1, fun b hb => by have h := frw0.2 b hb; (try simp at h); omega⟩
 have L_w0 := Lib.hid (SlR.lt sw0)
 have ZW0w0 : w.heap.size ≤ Y4.heap.size := Gr.size GWY4
 have rY5_w0 := Lib.hid sw0
 clear sw0 frw0
 have GY5 : Gr Y4 Y5 := ((Gr.refl _) : Gr Y4 Y4).trans hY5
 have GWY5 : Gr w Y5 := GWY4.trans GY5
 have ZY5 : Y4.heap.size ≤ Y5.heap.size := GY5.size
 have cY5_ag_0 : Y5.cell? ⟨w.heap.size, 0, none⟩ = some (.slice gaq0 glq0 gcq0) := GY5.keep cY4_ag_0
 have cY5_ag_1 : Y5.cell? ⟨w.heap.size, 1, none⟩ = some (.slice gaq1 glq1 gcq1) := GY5.keep cY4_ag_1
 have cY5_at_0 : Y5.cell? ⟨w.heap.size + 1, 0, none⟩ = some (.slice taq0 tlq0 tcq0) := GY5.keep cY4_at_0
 have cY5_ap_0 : Y5.cell? ⟨w.heap.size + 1 + 1, 0, none⟩ = some (.slice paq0 plq0 pcq0) := GY5.keep cY4_ap_0
 have cY5_ap_1 : Y5.cell? ⟨w.heap.size + 1 + 1, 1, none⟩ = some (.slice paq1 plq1 pcq1) := GY5.keep cY4_ap_1
 have cY5_am_0 : Y5.cell? ⟨w.heap.size + 1 + 1 + 1, 0, none⟩ = some (.slice maq0 mlq0 mcq0) := GY5.keep cY4_am_0
 have cY5_am_1 : Y5.cell? ⟨w.heap.size + 1 + 1 + 1, 1, none⟩ = some (.slice maq1 mlq1 mcq1) := GY5.keep cY4_am_1
 have zY5_ag := blk cY5_ag_0
 have zY5_at := blk cY5_at_0
 have zY5_ap := blk cY5_ap_0
 have zY5_am := blk cY5_am_0
 clear cY4_ag_0 cY4_ag_1 cY4_at_0 cY4_ap_0 cY4_ap_1 cY4_am_0 cY4_am_1
 go_wp2_with fail
 refine (toGrammar_any _ _ g _ (Rd.gr HG.out GWY5) wtg).mono ?_
 rintro e Y6 ⟨dsx0, fx0, rfl, sx0, frx0, gY6⟩
 obtain ⟨ax0q0, lx0q0, cx0q0, ax0q1, lx0q1, cx0q1, rfl⟩ := rdGrammar_shape sx0
 have F_x0 : Hid (fx0.Nodup ∧ ∀ b ∈ fx0, Y5.heap.size + 0 ≤ b) := Lib.hid ⟨frx0.1, fun b hb => by have h := frx0.2 b hb; (try simp at h); omega⟩
 have L_x0 := Lib.hid (Rd.lt sx0)
 have ZW0x0 : w.heap.size ≤ Y5.heap.size := Gr.size GWY5
 have rY6_x0 := Lib.hid sx0
 clear sx0 frx0
 have GY6 : Gr Y5 Y6 := ((Gr.refl _) : Gr Y5 Y5).trans gY6
 have GWY6 : Gr w Y6 := GWY5.trans GY6
 have ZY6 : Y5.heap.size ≤ Y6.heap.size := GY6.size
 have cY6_ag_0 : Y6.cell? ⟨w.heap.size, 0, none⟩ = some (.slice gaq0 glq0 gcq0) := GY6.keep cY5_ag_0
 have cY6_ag_1 : Y6.cell? ⟨w.heap.size, 1, none⟩ = some (.slice gaq1 glq1 gcq1) := GY6.keep cY5_ag_1
 have cY6_at_0 : Y6.cell? ⟨w.heap.size + 1, 0, none⟩ = some (.slice taq0 tlq0 tcq0) := GY6.keep cY5_at_0
 have cY6_ap_0 : Y6.cell? ⟨w.heap.size + 1 + 1, 0, none⟩ = some (.slice paq0 plq0 pcq0) := GY6.keep cY5_ap_0
 have cY6_ap_1 : Y6.cell? ⟨w.heap.size + 1 + 1, 1, none⟩ = some (.slice paq1 plq1 pcq1) := GY6.keep cY5_ap_1
 have cY6_am_0 : Y6.cell? ⟨w.heap.size + 1 + 1 + 1, 0, none⟩ = some (.slice maq0 mlq0 mcq0) := GY6.keep cY5_am_0
 have cY6_am_1 : Y6.cell? ⟨w.heap.size + 1 + 1 + 1, 1, none⟩ = some (.slice maq1 mlq1 mcq1) := GY6.keep cY5_am_1
 have zY6_ag := blk cY6_ag_0
 have zY6_at := blk cY6_at_0
 have zY6_ap := blk cY6_ap_0
 have zY6_am := blk cY6_am_0
 have rY6_w0 := Lib.hid (SlR.gr rY5_w0.out GY6)
 clear cY5_ag_0 cY5_ag_1 cY5_at_0 cY5_ap_0 cY5_ap_1 cY5_am_0 cY5_am_1
 go_wp2_with fail
 refine (toTree_any _ _ t _ (Rd.gr HT.out ((GWY6).trans (by repeat (first | exact Gr.refl _ | apply Gr.ext | apply Gr.alloc | apply Gr.drew)))) wtt).mono ?_
 rintro e Y7 ⟨dsx1, fx1, rfl, sx1, frx1, gY7⟩
 obtain ⟨ax1q0, lx1q0, cx1q0, rfl⟩ := rdTree_shape sx1
 have F_x1 : Hid (fx1.Nodup ∧ ∀ b ∈ fx1, Y6.heap.size + 1 ≤ b) := Lib.hid ⟨frx1.1, fun b hb => by have h := frx1.2 b hb; (try simp at h); omega⟩
 have L_x1 := Lib.hid (Rd.lt sx1)
 have ZW0x1 : w.heap.size ≤ Y6.heap.size := Gr.size GWY6
 have rY7_x1 := Lib.hid sx1
 clear sx1 frx1
 have GY7 : Gr Y6 Y7 := ((by repeat (first | exact Gr.refl _ | apply Gr.ext | apply Gr.alloc | apply Gr.drew)) : Gr Y6 (Y6.alloc (.cells #[.slice ax0q0 lx0q0 cx0q0, .slice ax0q1 lx0q1 cx0q1] 43))).trans gY7
 have GWY7 : Gr w Y7 := GWY6.trans GY7
 have ZY7 : Y6.heap.size ≤ Y7.heap.size := GY7.size
 have cY7_ag_0 : Y7.cell? ⟨w.heap.size, 0, none⟩ = some (.slice gaq0 glq0 gcq0) := GY7.keep cY6_ag_0
 have cY7_ag_1 : Y7.cell? ⟨w.heap.size, 1, none⟩ = some (.slice gaq1 glq1 gcq1) := GY7.keep cY6_ag_1
 have cY7_at_0 : Y7.cell? ⟨w.heap.size + 1, 0, none⟩ = some (.slice taq0 tlq0 tcq0) := GY7.keep cY6_at_0
 have cY7_ap_0 : Y7.cell? ⟨w.heap.size + 1 + 1, 0, none⟩ = some (.slice paq0 plq0 pcq0) := GY7.keep cY6_ap_0
 have cY7_ap_1 : Y7.cell? ⟨w.heap.size + 1 + 1, 1, none⟩ = some (.slice paq1 plq1 pcq1) := GY7.keep cY6_ap_1
 have cY7_am_0 : Y7.cell? ⟨w.heap.size + 1 + 1 + 1, 0, none⟩ = some (.slice maq0 mlq0 mcq0) := GY7.keep cY6_am_0
 have cY7_am_1 : Y7.cell? ⟨w.heap.size + 1 + 1 + 1, 1, none⟩ = some (.slice maq1 mlq1 mcq1) := GY7.keep cY6_am_1
 have cY7_x0_0 : Y7.cell? ⟨Y6.heap.size, 0, none⟩ = some (.slice ax0q0 lx0q0 cx0q0) := (((by repeat (first | exact Gr.refl _ | apply Gr.ext | apply Gr.alloc | apply Gr.drew)) : Gr (Y6.alloc (.cells #[.slice ax0q0 lx0q0 cx0q0, .slice ax0q1 lx0q1 cx0q1] 43)) (Y6.alloc (.cells #[.slice ax0q0 lx0q0 cx0q0, .slice ax0q1 lx0q1 cx0q1] 43))).trans gY7).keep (box_cell (A := _) (by simp) rfl : ((Y6.alloc (.cells #[.slice ax0q0 lx0q0 cx0q0, .slice ax0q1 lx0q1 cx0q1] 43))).cell? ⟨Y6.heap.size, 0, none⟩ = some (.slice ax0q0 lx0q0 cx0q0))
 have cY7_x0_1 : Y7.cell? ⟨Y6.heap.size, 1, none⟩ = some (.slice ax0q1 lx0q1 cx0q1) := (((by repeat (first | exact Gr.refl _ | apply Gr.ext | apply Gr.alloc | apply Gr.drew)) : Gr (Y6.alloc (.cells #[.slice ax0q0 lx0q0 cx0q0, .slice ax0q1 lx0q1 cx0q1] 43)) (Y6.alloc (.cells #[.slice ax0q0 lx0q0 cx0q0, .slice ax0q1 lx0q1 cx0q1] 43))).trans gY7).keep (box_cell (A := _) (by simp) rfl : ((Y6.alloc (.cells #[.slice ax0q0 lx0q0 cx0q0, .slice ax0q1 lx0q1 cx0q1] 43))).cell? ⟨Y6.heap.size, 1, none⟩ = some (.slice ax0q1 lx0q1 cx0q1))
 have zY7_ag := blk cY7_ag_0
 have zY7_at := blk cY7_at_0
 have zY7_ap := blk cY7_ap_0
 have zY7_am := blk cY7_am_0
 have zY7_x0 := blk cY7_x0_0
 have rY7_w0 := Lib.hid (SlR.gr rY6_w0.out GY7)
 have rY7_x0 := Lib.hid (Rd.gr rY6_x0.out GY7)
 clear cY6_ag_0 cY6_ag_1 cY6_at_0 cY6_ap_0 cY6_ap_1 cY6_am_0 cY6_am_1
 go_wp2_with fail
 refine (toMemo_any _ _ p _ (Rd.gr HP.out ((GWY7).trans (by repeat (first | exact Gr.refl _ | apply Gr.ext | apply Gr.alloc | apply Gr.drew)))) wtp).mono ?_
 rintro e Y8 ⟨dsx2, fx2, rfl, sx2, frx2, gY8⟩
 obtain ⟨ax2q0, lx2q0, cx2q0, ax2q1, lx2q1, cx2q1, rfl⟩ := rdMemo_shape sx2
 have F_x2 : Hid (fx2.Nodup ∧ ∀ b ∈ fx2, Y7.heap.size + 1 ≤ b) := Lib.hid ⟨frx2.1, fun b hb => by have h := frx2.2 b hb; (try simp at h); omega⟩
 have L_x2 := Lib.hid (Rd.lt sx2)
 have ZW0x2 : w.heap.size ≤ Y7.heap.size := Gr.size GWY7
 have rY8_x2 := Lib.hid sx2
 clear sx2 frx2
 have GY8 : Gr Y7 Y8 := ((by repeat (first | exact Gr.refl _ | apply Gr.ext | apply Gr.alloc | apply Gr.drew)) : Gr Y7 (Y7.alloc (.cells #[.slice ax1q0 lx1q0 cx1q0] 47))).trans gY8
 have GWY8 : Gr w Y8 := GWY7.trans GY8
 have ZY8 : Y7.heap.size ≤ Y8.heap.size := GY8.size
 have cY8_ag_0 : Y8.cell? ⟨w.heap.size, 0, none⟩ = some (.slice gaq0 glq0 gcq0) := GY8.keep cY7_ag_0
 have cY8_ag_1 : Y8.cell? ⟨w.heap.size, 1, none⟩ = some (.slice gaq1 glq1 gcq1) := GY8.keep cY7_ag_1
 have cY8_at_0 : Y8.cell? ⟨w.heap.size + 1, 0, none⟩ = some (.slice taq0 tlq0 tcq0) := GY8.keep cY7_at_0
 have cY8_ap_0 : Y8.cell? ⟨w.heap.size + 1 + 1, 0, none⟩ = some (.slice paq0 plq0 pcq0) := GY8.keep cY7_ap_0
 have cY8_ap_1 : Y8.cell? ⟨w.heap.size + 1 + 1, 1, none⟩ = some (.slice paq1 plq1 pcq1) := GY8.keep cY7_ap_1
 have cY8_am_0 : Y8.cell? ⟨w.heap.size + 1 + 1 + 1, 0, none⟩ = some (.slice maq0 mlq0 mcq0) := GY8.keep cY7_am_0
 have cY8_am_1 : Y8.cell? ⟨w.heap.size + 1 + 1 + 1, 1, none⟩ = some (.slice maq1 mlq1 mcq1) := GY8.keep cY7_am_1
 have cY8_x0_0 : Y8.cell? ⟨Y6.heap.size, 0, none⟩ = some (.slice ax0q0 lx0q0 cx0q0) := GY8.keep cY7_x0_0
 have cY8_x0_1 : Y8.cell? ⟨Y6.heap.size, 1, none⟩ = some (.slice ax0q1 lx0q1 cx0q1) := GY8.keep cY7_x0_1
 have cY8_x1_0 : Y8.cell? ⟨Y7.heap.size, 0, none⟩ = some (.slice ax1q0 lx1q0 cx1q0) := (((by repeat (first | exact Gr.refl _ | apply Gr.ext | apply Gr.alloc | apply Gr.drew)) : Gr (Y7.alloc (.cells #[.slice ax1q0 lx1q0 cx1q0] 47)) (Y7.alloc (.cells #[.slice ax1q0 lx1q0 cx1q0] 47))).trans gY8).keep (box_cell (A := _) (by simp) rfl : ((Y7.alloc (.cells #[.slice ax1q0 lx1q0 cx1q0] 47))).cell? ⟨Y7.heap.size, 0, none⟩ = some (.slice ax1q0 lx1q0 cx1q0))
 have zY8_ag := blk cY8_ag_0
 have zY8_at := blk cY8_at_0
 have zY8_ap := blk cY8_ap_0
 have zY8_am := blk cY8_am_0
 have zY8_x0 := blk cY8_x0_0
 have zY8_x1 := blk cY8_x1_0
 have rY8_w0 := Lib.hid (SlR.gr rY7_w0.out GY8)
 have rY8_x0 := Lib.hid (Rd.gr rY7_x0.out GY8)
 have rY8_x1 := Lib.hid (Rd.gr rY7_x1.out GY8)
 clear cY7_ag_0 cY7_ag_1 cY7_at_0 cY7_ap_0 cY7_ap_1 cY7_am_0 cY7_am_1 cY7_x0_0 cY7_x0_1
 go_wp2_with fail
 refine (toMemo_any _ _ m _ (Rd.gr HM.out ((GWY8).trans (by repeat (first | exact Gr.refl _ | apply Gr.ext | apply Gr.alloc | apply Gr.drew)))) wtm).mono ?_
 rintro e Y9 ⟨dsx3, fx3, rfl, sx3, frx3, gY9⟩
 obtain ⟨ax3q0, lx3q0, cx3q0, ax3q1, lx3q1, cx3q1, rfl⟩ := rdMemo_shape sx3
 have F_x3 : Hid (fx3.Nodup ∧ ∀ b ∈ fx3, Y8.heap.size + 1 ≤ b) := Lib.hid ⟨frx3.1, fun b hb => by have h := frx3.2 b hb; (try simp at h); omega⟩
 have L_x3 := Lib.hid (Rd.lt sx3)
 have ZW0x3 : w.heap.size ≤ Y8.heap.size := Gr.size GWY8
 have rY9_x3 := Lib.hid sx3
 clear sx3 frx3
 have GY9 : Gr Y8 Y9 := ((by repeat (first | exact Gr.refl _ | apply Gr.ext | apply Gr.alloc | apply Gr.drew)) : Gr Y8 (Y8.alloc (.cells #[.slice ax2q0 lx2q0 cx2q0, .slice ax2q1 lx2q1 cx2q1] 66))).trans gY9
 have GWY9 : Gr w Y9 := GWY8.trans GY9
 have ZY9 : Y8.heap.size ≤ Y9.heap.size := GY9.size
 have cY9_ag_0 : Y9.cell? ⟨w.heap.size, 0, none⟩ = some (.slice gaq0 glq0 gcq0) := GY9.keep cY8_ag_0
 have cY9_ag_1 : Y9.cell? ⟨w.heap.size, 1, none⟩ = some (.slice gaq1 glq1 gcq1) := GY9.keep cY8_ag_1
 have cY9_at_0 : Y9.cell? ⟨w.heap.size + 1, 0, none⟩ = some (.slice taq0 tlq0 tcq0) := GY9.keep cY8_at_0
 have cY9_ap_0 : Y9.cell? ⟨w.heap.size + 1 + 1, 0, none⟩ = some (.slice paq0 plq0 pcq0) := GY9.keep cY8_ap_0
 have cY9_ap_1 : Y9.cell? ⟨w.heap.size + 1 + 1, 1, none⟩ = some (.slice paq1 plq1 pcq1) := GY9.keep cY8_ap_1
 have cY9_am_0 : Y9.cell? ⟨w.heap.size + 1 + 1 + 1, 0, none⟩ = some (.slice maq0 mlq0 mcq0) := GY9.keep cY8_am_0
 have cY9_am_1 : Y9.cell? ⟨w.heap.size + 1 + 1 + 1, 1, none⟩ = some (.slice maq1 mlq1 mcq1) := GY9.keep cY8_am_1
 have cY9_x0_0 : Y9.cell? ⟨Y6.heap.size, 0, none⟩ = some (.slice ax0q0 lx0q0 cx0q0) := GY9.keep cY8_x0_0
 have cY9_x0_1 : Y9.cell? ⟨Y6.heap.size, 1, none⟩ = some (.slice ax0q1 lx0q1 cx0q1) := GY9.keep cY8_x0_1
 have cY9_x1_0 : Y9.cell? ⟨Y7.heap.size, 0, none⟩ = some (.slice ax1q0 lx1q0 cx1q0) := GY9.keep cY8_x1_0
 have cY9_x2_0 : Y9.cell? ⟨Y8.heap.size, 0, none⟩ = some (.slice ax2q0 lx2q0 cx2q0) := (((by repeat (first | exact Gr.refl _ | apply Gr.ext | apply Gr.alloc | apply Gr.drew)) : Gr (Y8.alloc (.cells #[.slice ax2q0 lx2q0 cx2q0, .slice ax2q1 lx2q1 cx2q1] 66)) (Y8.alloc (.cells #[.slice ax2q0 lx2q0 cx2q0, .slice ax2q1 lx2q1 cx2q1] 66))).trans gY9).keep (box_cell (A := _) (by simp) rfl : ((Y8.alloc (.cells #[.slice ax2q0 lx2q0 cx2q0, .slice ax2q1 lx2q1 cx2q1] 66))).cell? ⟨Y8.heap.size, 0, none⟩ = some (.slice ax2q0 lx2q0 cx2q0))
 have cY9_x2_1 : Y9.cell? ⟨Y8.heap.size, 1, none⟩ = some (.slice ax2q1 lx2q1 cx2q1) := (((by repeat (first | exact Gr.refl _ | apply Gr.ext | apply Gr.alloc | apply Gr.drew)) : Gr (Y8.alloc (.cells #[.slice ax2q0 lx2q0 cx2q0, .slice ax2q1 lx2q1 cx2q1] 66)) (Y8.alloc (.cells #[.slice ax2q0 lx2q0 cx2q0, .slice ax2q1 lx2q1 cx2q1] 66))).trans gY9).keep (box_cell (A := _) (by simp) rfl : ((Y8.alloc (.cells #[.slice ax2q0 lx2q0 cx2q0, .slice ax2q1 lx2q1 cx2q1] 66))).cell? ⟨Y8.heap.size, 1, none⟩ = some (.slice ax2q1 lx2q1 cx2q1))
 have zY9_ag := blk cY9_ag_0
 have zY9_at := blk cY9_at_0
 have zY9_ap := blk cY9_ap_0
 have zY9_am := blk cY9_am_0
 have zY9_x0 := blk cY9_x0_0
 have zY9_x1 := blk cY9_x1_0
 have zY9_x2 := blk cY9_x2_0
 have rY9_w0 := Lib.hid (SlR.gr rY8_w0.out GY9)
 have rY9_x0 := Lib.hid (Rd.gr rY8_x0.out GY9)
 have rY9_x1 := Lib.hid (Rd.gr rY8_x1.out GY9)
 have rY9_x2 := Lib.hid (Rd.gr rY8_x2.out GY9)
 clear cY8_ag_0 cY8_ag_1 cY8_at_0 cY8_ap_0 cY8_ap_1 cY8_am_0 cY8_am_1 cY8_x0_0 cY8_x0_1 cY8_x1_0
 go_wp2_with fail
 refine (implUnj_any g t p m _ (Rd.gr rY9_x0.out (by repeat (first | exact Gr.refl _ | apply Gr.ext | apply Gr.alloc | apply Gr.drew))) (Rd.gr rY9_x1.out (by repeat (first | exact Gr.refl _ | apply Gr.ext | apply Gr.alloc | apply Gr.drew))) (Rd.gr rY9_x2.out (by repeat (first | exact Gr.refl _ | apply Gr.ext | apply Gr.alloc | apply Gr.drew))) (Rd.gr rY9_x3.out (by repeat (first | exact Gr.refl _ | apply Gr.ext | apply Gr.alloc | apply Gr.drew))) wtg wtt wtm).mono ?_
 rintro e Y10 ⟨vg0, fg0, rfl, sg0, frg0, gY10⟩
 rw [← HYV.out] at sg0
 obtain ⟨ag0, cg0, rfl, -, -, -⟩ := sg0.open
 have F_g0 : Hid (fg0.Nodup ∧ ∀ b ∈ fg0, Y9.heap.size + 1 ≤ b) := Lib.hid ⟨frg0.1, fun b hb => by have h := frg0.2 b hb; (try simp at h); omega⟩
 have L_g0 := Lib.hid (SlR.lt sg0)
 have ZW0g0 : w.heap.size ≤ Y9.heap.size := Gr.size GWY9
 have rY10_g0 := Lib.hid sg0
 clear sg0 frg0
 have GY10 : Gr Y9 Y10 := ((by repeat (first | exact Gr.refl _ | apply Gr.ext | apply Gr.alloc | apply Gr.drew)) : Gr Y9 (Y9.alloc (.cells #[.slice ax3q0 lx3q0 cx3q0, .slice ax3q1 lx3q1 cx3q1] 66))).trans gY10
 have GWY10 : Gr w Y10 := GWY9.trans GY10
 have ZY10 : Y9.heap.size ≤ Y10.heap.size := GY10.size
 have cY10_ag_0 : Y10.cell? ⟨w.heap.size, 0, none⟩ = some (.slice gaq0 glq0 gcq0) := GY10.keep cY9_ag_0
 have cY10_ag_1 : Y10.cell? ⟨w.heap.size, 1, none⟩ = some (.slice gaq1 glq1 gcq1) := GY10.keep cY9_ag_1
 have cY10_at_0 : Y10.cell? ⟨w.heap.size + 1, 0, none⟩ = some (.slice taq0 tlq0 tcq0) := GY10.keep cY9_at_0
 have cY10_ap_0 : Y10.cell? ⟨w.heap.size + 1 + 1, 0, none⟩ = some (.slice paq0 plq0 pcq0) := GY10.keep cY9_ap_0
 have cY10_ap_1 : Y10.cell? ⟨w.heap.size + 1 + 1, 1, none⟩ = some (.slice paq1 plq1 pcq1) := GY10.keep cY9_ap_1
 have cY10_am_0 : Y10.cell? ⟨w.heap.size + 1 + 1 + 1, 0, none⟩ = some (.slice maq0 mlq0 mcq0) := GY10.keep cY9_am_0
 have cY10_am_1 : Y10.cell? ⟨w.heap.size + 1 + 1 + 1, 1, none⟩ = some (.slice maq1 mlq1 mcq1) := GY10.keep cY9_am_1
 have cY10_x0_0 : Y10.cell? ⟨Y6.heap.size, 0, none⟩ = some (.slice ax0q0 lx0q0 cx0q0) := GY10.keep cY9_x0_0
 have cY10_x0_1 : Y10.cell? ⟨Y6.heap.size, 1, none⟩ = some (.slice ax0q1 lx0q1 cx0q1) := GY10.keep cY9_x0_1
 have cY10_x1_0 : Y10.cell? ⟨Y7.heap.size, 0, none⟩ = some (.slice ax1q0 lx1q0 cx1q0) := GY10.keep cY9_x1_0
 have cY10_x2_0 : Y10.cell? ⟨Y8.heap.size, 0, none⟩ = some (.slice ax2q0 lx2q0 cx2q0) := GY10.keep cY9_x2_0
 have cY10_x2_1 : Y10.cell? ⟨Y8.heap.size, 1, none⟩ = some (.slice ax2q1 lx2q1 cx2q1) := GY10.keep cY9_x2_1
 have cY10_x3_0 : Y10.cell? ⟨Y9.heap.size, 0, none⟩ = some (.slice ax3q0 lx3q0 cx3q0) := (((by repeat (first | exact Gr.refl _ | apply Gr.ext | apply Gr.alloc | apply Gr.drew)) : Gr (Y9.alloc (.cells #[.slice ax3q0 lx3q0 cx3q0, .slice ax3q1 lx3q1 cx3q1] 66)) (Y9.alloc (.cells #[.slice ax3q0 lx3q0 cx3q0, .slice ax3q1 lx3q1 cx3q1] 66))).trans gY10).keep (box_cell (A := _) (by simp) rfl : ((Y9.alloc (.cells #[.slice ax3q0 lx3q0 cx3q0, .slice ax3q1 lx3q1 cx3q1] 66))).cell? ⟨Y9.heap.size, 0, none⟩ = some (.slice ax3q0 lx3q0 cx3q0))
 have cY10_x3_1 : Y10.cell? ⟨Y9.heap.size, 1, none⟩ = some (.slice ax3q1 lx3q1 cx3q1) := (((by repeat (first | exact Gr.refl _ | apply Gr.ext | apply Gr.alloc | apply Gr.drew)) : Gr (Y9.alloc (.cells #[.slice ax3q0 lx3q0 cx3q0, .slice ax3q1 lx3q1 cx3q1] 66)) (Y9.alloc (.cells #[.slice ax3q0 lx3q0 cx3q0, .slice ax3q1 lx3q1 cx3q1] 66))).trans gY10).keep (box_cell (A := _) (by simp) rfl : ((Y9.alloc (.cells #[.slice ax3q0 lx3q0 cx3q0, .slice ax3q1 lx3q1 cx3q1] 66))).cell? ⟨Y9.heap.size, 1, none⟩ = some (.slice ax3q1 lx3q1 cx3q1))
 have zY10_ag := blk cY10_ag_0
 have zY10_at := blk cY10_at_0
 have zY10_ap := blk cY10_ap_0
 have zY10_am := blk cY10_am_0
 have zY10_x0 := blk cY10_x0_0
 have zY10_x1 := blk cY10_x1_0
 have zY10_x2 := blk cY10_x2_0
 have zY10_x3 := blk cY10_x3_0
 have rY10_w0 := Lib.hid (SlR.gr rY9_w0.out GY10)
 have rY10_x0 := Lib.hid (Rd.gr rY9_x0.out GY10)
 have rY10_x1 := Lib.hid (Rd.gr rY9_x1.out GY10)
 have rY10_x2 := Lib.hid (Rd.gr rY9_x2.out GY10)
 have rY10_x3 := Lib.hid (Rd.gr rY9_x3.out GY10)
 clear cY9_ag_0 cY9_ag_1 cY9_at_0 cY9_ap_0 cY9_ap_1 cY9_am_0 cY9_am_1 cY9_x0_0 cY9_x0_1 cY9_x1_0 cY9_x2_0 cY9_x2_1
 go_wp2_with fail
 refine (eqInstanceS_any fg0 fw0 _ _ yv yv _ rY10_g0.out rY10_w0.out).mono ?_
 rintro e Y11 ⟨rfl, gY11⟩
 rw [decide_eq_true rfl]
 have GY11 : Gr Y10 Y11 := ((Gr.refl _) : Gr Y10 Y10).trans gY11
 have GWY11 : Gr w Y11 := GWY10.trans GY11
 have ZY11 : Y10.heap.size ≤ Y11.heap.size := GY11.size
 have cY11_ag_0 : Y11.cell? ⟨w.heap.size, 0, none⟩ = some (.slice gaq0 glq0 gcq0) := GY11.keep cY10_ag_0
 have cY11_ag_1 : Y11.cell? ⟨w.heap.size, 1, none⟩ = some (.slice gaq1 glq1 gcq1) := GY11.keep cY10_ag_1
 have cY11_at_0 : Y11.cell? ⟨w.heap.size + 1, 0, none⟩ = some (.slice taq0 tlq0 tcq0) := GY11.keep cY10_at_0
 have cY11_ap_0 : Y11.cell? ⟨w.heap.size + 1 + 1, 0, none⟩ = some (.slice paq0 plq0 pcq0) := GY11.keep cY10_ap_0
 have cY11_ap_1 : Y11.cell? ⟨w.heap.size + 1 + 1, 1, none⟩ = some (.slice paq1 plq1 pcq1) := GY11.keep cY10_ap_1
 have cY11_am_0 : Y11.cell? ⟨w.heap.size + 1 + 1 + 1, 0, none⟩ = some (.slice maq0 mlq0 mcq0) := GY11.keep cY10_am_0
 have cY11_am_1 : Y11.cell? ⟨w.heap.size + 1 + 1 + 1, 1, none⟩ = some (.slice maq1 mlq1 mcq1) := GY11.keep cY10_am_1
 have cY11_x0_0 : Y11.cell? ⟨Y6.heap.size, 0, none⟩ = some (.slice ax0q0 lx0q0 cx0q0) := GY11.keep cY10_x0_0
 have cY11_x0_1 : Y11.cell? ⟨Y6.heap.size, 1, none⟩ = some (.slice ax0q1 lx0q1 cx0q1) := GY11.keep cY10_x0_1
 have cY11_x1_0 : Y11.cell? ⟨Y7.heap.size, 0, none⟩ = some (.slice ax1q0 lx1q0 cx1q0) := GY11.keep cY10_x1_0
 have cY11_x2_0 : Y11.cell? ⟨Y8.heap.size, 0, none⟩ = some (.slice ax2q0 lx2q0 cx2q0) := GY11.keep cY10_x2_0
 have cY11_x2_1 : Y11.cell? ⟨Y8.heap.size, 1, none⟩ = some (.slice ax2q1 lx2q1 cx2q1) := GY11.keep cY10_x2_1
 have cY11_x3_0 : Y11.cell? ⟨Y9.heap.size, 0, none⟩ = some (.slice ax3q0 lx3q0 cx3q0) := GY11.keep cY10_x3_0
 have cY11_x3_1 : Y11.cell? ⟨Y9.heap.size, 1, none⟩ = some (.slice ax3q1 lx3q1 cx3q1) := GY11.keep cY10_x3_1
 have zY11_ag := blk cY11_ag_0
 have zY11_at := blk cY11_at_0
 have zY11_ap := blk cY11_ap_0
 have zY11_am := blk cY11_am_0
 have zY11_x0 := blk cY11_x0_0
 have zY11_x1 := blk cY11_x1_0
 have zY11_x2 := blk cY11_x2_0
 have zY11_x3 := blk cY11_x3_0
 have rY11_w0 := Lib.hid (SlR.gr rY10_w0.out GY11)
 have rY11_x0 := Lib.hid (Rd.gr rY10_x0.out GY11)
 have rY11_x1 := Lib.hid (Rd.gr rY10_x1.out GY11)
 have rY11_x2 := Lib.hid (Rd.gr rY10_x2.out GY11)
 have rY11_x3 := Lib.hid (Rd.gr rY10_x3.out GY11)
 have rY11_g0 := Lib.hid (SlR.gr rY10_g0.out GY11)
 clear cY10_ag_0 cY10_ag_1 cY10_at_0 cY10_ap_0 cY10_ap_1 cY10_am_0 cY10_am_1 cY10_x0_0 cY10_x0_1 cY10_x1_0 cY10_x2_0 cY10_x2_1 cY10_x3_0 cY10_x3_1
 go_wp2_with fail
 have kcY11_ag_0 : ∀ w' : World, Gr Y11 w' → w'.cell? ⟨w.heap.size, 0, none⟩ = some (.slice gaq0 glq0 gcq0) := fun w' h => h.keep cY11_ag_0
 have kcY11_ag_1 : ∀ w' : World, Gr Y11 w' → w'.cell? ⟨w.heap.size, 1, none⟩ = some (.slice gaq1 glq1 gcq1) := fun w' h => h.keep cY11_ag_1
 have kcY11_at_0 : ∀ w' : World, Gr Y11 w' → w'.cell? ⟨w.heap.size + 1, 0, none⟩ = some (.slice taq0 tlq0 tcq0) := fun w' h => h.keep cY11_at_0
 have kcY11_ap_0 : ∀ w' : World, Gr Y11 w' → w'.cell? ⟨w.heap.size + 1 + 1, 0, none⟩ = some (.slice paq0 plq0 pcq0) := fun w' h => h.keep cY11_ap_0
 have kcY11_ap_1 : ∀ w' : World, Gr Y11 w' → w'.cell? ⟨w.heap.size + 1 + 1, 1, none⟩ = some (.slice paq1 plq1 pcq1) := fun w' h => h.keep cY11_ap_1
 have kcY11_am_0 : ∀ w' : World, Gr Y11 w' → w'.cell? ⟨w.heap.size + 1 + 1 + 1, 0, none⟩ = some (.slice maq0 mlq0 mcq0) := fun w' h => h.keep cY11_am_0
 have kcY11_am_1 : ∀ w' : World, Gr Y11 w' → w'.cell? ⟨w.heap.size + 1 + 1 + 1, 1, none⟩ = some (.slice maq1 mlq1 mcq1) := fun w' h => h.keep cY11_am_1
 have kcY11_x0_0 : ∀ w' : World, Gr Y11 w' → w'.cell? ⟨Y6.heap.size, 0, none⟩ = some (.slice ax0q0 lx0q0 cx0q0) := fun w' h => h.keep cY11_x0_0
 have kcY11_x0_1 : ∀ w' : World, Gr Y11 w' → w'.cell? ⟨Y6.heap.size, 1, none⟩ = some (.slice ax0q1 lx0q1 cx0q1) := fun w' h => h.keep cY11_x0_1
 have kcY11_x1_0 : ∀ w' : World, Gr Y11 w' → w'.cell? ⟨Y7.heap.size, 0, none⟩ = some (.slice ax1q0 lx1q0 cx1q0) := fun w' h => h.keep cY11_x1_0
 have kcY11_x2_0 : ∀ w' : World, Gr Y11 w' → w'.cell? ⟨Y8.heap.size, 0, none⟩ = some (.slice ax2q0 lx2q0 cx2q0) := fun w' h => h.keep cY11_x2_0
 have kcY11_x2_1 : ∀ w' : World, Gr Y11 w' → w'.cell? ⟨Y8.heap.size, 1, none⟩ = some (.slice ax2q1 lx2q1 cx2q1) := fun w' h => h.keep cY11_x2_1
 have kcY11_x3_0 : ∀ w' : World, Gr Y11 w' → w'.cell? ⟨Y9.heap.size, 0, none⟩ = some (.slice ax3q0 lx3q0 cx3q0) := fun w' h => h.keep cY11_x3_0
 have kcY11_x3_1 : ∀ w' : World, Gr Y11 w' → w'.cell? ⟨Y9.heap.size, 1, none⟩ = some (.slice ax3q1 lx3q1 cx3q1) := fun w' h => h.keep cY11_x3_1
 go_region_held3 (fun w' => Gr Y11 w') (first | assumption | exact Gr.drew (Gr.refl _) | exact Gr.ext (by assumption) _)
   (first
     | ((go_at_call 10; refine (toGrammar_any _ _ g _ (Rd.gr HG.out (GWY11.trans (by assumption))) wtg).mono ?_; rintro e w' ⟨ds5, f5, rfl, s5, fr5, e1, rfl⟩))
     | ((go_at_call 15; refine (eqGrammar_any _ _ _ _ g g _ (Rd.gr rY11_x0.out (by assumption)) s5).mono ?_; rintro e w' ⟨rfl, e2, rfl⟩; rw [decide_eq_true rfl])))
 have hY12 : Gr Y11 ((Y11.drew.ext e1).ext e2) := by assumption
 generalize ((Y11.drew.ext e1).ext e2) = Y12 at hY12 ⊢
 clear kcY11_ag_0 kcY11_ag_1 kcY11_at_0 kcY11_ap_0 kcY11_ap_1 kcY11_am_0 kcY11_am_1 kcY11_x0_0 kcY11_x0_1 kcY11_x1_0 kcY11_x2_0 kcY11_x2_1 kcY11_x3_0 kcY11_x3_1
 have GY12 : Gr Y11 Y12 := ((Gr.refl _) : Gr Y11 Y11).trans hY12
 have GWY12 : Gr w Y12 := GWY11.trans GY12
 have ZY12 : Y11.heap.size ≤ Y12.heap.size := GY12.size
 have cY12_ag_0 : Y12.cell? ⟨w.heap.size, 0, none⟩ = some (.slice gaq0 glq0 gcq0) := GY12.keep cY11_ag_0
 have cY12_ag_1 : Y12.cell? ⟨w.heap.size, 1, none⟩ = some (.slice gaq1 glq1 gcq1) := GY12.keep cY11_ag_1
 have cY12_at_0 : Y12.cell? ⟨w.heap.size + 1, 0, none⟩ = some (.slice taq0 tlq0 tcq0) := GY12.keep cY11_at_0
 have cY12_ap_0 : Y12.cell? ⟨w.heap.size + 1 + 1, 0, none⟩ = some (.slice paq0 plq0 pcq0) := GY12.keep cY11_ap_0
 have cY12_ap_1 : Y12.cell? ⟨w.heap.size + 1 + 1, 1, none⟩ = some (.slice paq1 plq1 pcq1) := GY12.keep cY11_ap_1
 have cY12_am_0 : Y12.cell? ⟨w.heap.size + 1 + 1 + 1, 0, none⟩ = some (.slice maq0 mlq0 mcq0) := GY12.keep cY11_am_0
 have cY12_am_1 : Y12.cell? ⟨w.heap.size + 1 + 1 + 1, 1, none⟩ = some (.slice maq1 mlq1 mcq1) := GY12.keep cY11_am_1
 have cY12_x0_0 : Y12.cell? ⟨Y6.heap.size, 0, none⟩ = some (.slice ax0q0 lx0q0 cx0q0) := GY12.keep cY11_x0_0
 have cY12_x0_1 : Y12.cell? ⟨Y6.heap.size, 1, none⟩ = some (.slice ax0q1 lx0q1 cx0q1) := GY12.keep cY11_x0_1
 have cY12_x1_0 : Y12.cell? ⟨Y7.heap.size, 0, none⟩ = some (.slice ax1q0 lx1q0 cx1q0) := GY12.keep cY11_x1_0
 have cY12_x2_0 : Y12.cell? ⟨Y8.heap.size, 0, none⟩ = some (.slice ax2q0 lx2q0 cx2q0) := GY12.keep cY11_x2_0
 have cY12_x2_1 : Y12.cell? ⟨Y8.heap.size, 1, none⟩ = some (.slice ax2q1 lx2q1 cx2q1) := GY12.keep cY11_x2_1
 have cY12_x3_0 : Y12.cell? ⟨Y9.heap.size, 0, none⟩ = some (.slice ax3q0 lx3q0 cx3q0) := GY12.keep cY11_x3_0
 have cY12_x3_1 : Y12.cell? ⟨Y9.heap.size, 1, none⟩ = some (.slice ax3q1 lx3q1 cx3q1) := GY12.keep cY11_x3_1
 have zY12_ag := blk cY12_ag_0
 have zY12_at := blk cY12_at_0
 have zY12_ap := blk cY12_ap_0
 have zY12_am := blk cY12_am_0
 have zY12_x0 := blk cY12_x0_0
 have zY12_x1 := blk cY12_x1_0
 have zY12_x2 := blk cY12_x2_0
 have zY12_x3 := blk cY12_x3_0
 have rY12_w0 := Lib.hid (SlR.gr rY11_w0.out GY12)
 have rY12_x0 := Lib.hid (Rd.gr rY11_x0.out GY12)
 have rY12_x1 := Lib.hid (Rd.gr rY11_x1.out GY12)
 have rY12_x2 := Lib.hid (Rd.gr rY11_x2.out GY12)
 have rY12_x3 := Lib.hid (Rd.gr rY11_x3.out GY12)
 have rY12_g0 := Lib.hid (SlR.gr rY11_g0.out GY12)
 clear cY11_ag_0 cY11_ag_1 cY11_at_0 cY11_ap_0 cY11_ap_1 cY11_am_0 cY11_am_1 cY11_x0_0 cY11_x0_1 cY11_x1_0 cY11_x2_0 cY11_x2_1 cY11_x3_0 cY11_x3_1
 clear s5 fr5
 go_wp2_with fail
 have kcY12_ag_0 : ∀ w' : World, Gr Y12 w' → w'.cell? ⟨w.heap.size, 0, none⟩ = some (.slice gaq0 glq0 gcq0) := fun w' h => h.keep cY12_ag_0
 have kcY12_ag_1 : ∀ w' : World, Gr Y12 w' → w'.cell? ⟨w.heap.size, 1, none⟩ = some (.slice gaq1 glq1 gcq1) := fun w' h => h.keep cY12_ag_1
 have kcY12_at_0 : ∀ w' : World, Gr Y12 w' → w'.cell? ⟨w.heap.size + 1, 0, none⟩ = some (.slice taq0 tlq0 tcq0) := fun w' h => h.keep cY12_at_0
 have kcY12_ap_0 : ∀ w' : World, Gr Y12 w' → w'.cell? ⟨w.heap.size + 1 + 1, 0, none⟩ = some (.slice paq0 plq0 pcq0) := fun w' h => h.keep cY12_ap_0
 have kcY12_ap_1 : ∀ w' : World, Gr Y12 w' → w'.cell? ⟨w.heap.size + 1 + 1, 1, none⟩ = some (.slice paq1 plq1 pcq1) := fun w' h => h.keep cY12_ap_1
 have kcY12_am_0 : ∀ w' : World, Gr Y12 w' → w'.cell? ⟨w.heap.size + 1 + 1 + 1, 0, none⟩ = some (.slice maq0 mlq0 mcq0) := fun w' h => h.keep cY12_am_0
 have kcY12_am_1 : ∀ w' : World, Gr Y12 w' → w'.cell? ⟨w.heap.size + 1 + 1 + 1, 1, none⟩ = some (.slice maq1 mlq1 mcq1) := fun w' h => h.keep cY12_am_1
 have kcY12_x0_0 : ∀ w' : World, Gr Y12 w' → w'.cell? ⟨Y6.heap.size, 0, none⟩ = some (.slice ax0q0 lx0q0 cx0q0) := fun w' h => h.keep cY12_x0_0
 have kcY12_x0_1 : ∀ w' : World, Gr Y12 w' → w'.cell? ⟨Y6.heap.size, 1, none⟩ = some (.slice ax0q1 lx0q1 cx0q1) := fun w' h => h.keep cY12_x0_1
 have kcY12_x1_0 : ∀ w' : World, Gr Y12 w' → w'.cell? ⟨Y7.heap.size, 0, none⟩ = some (.slice ax1q0 lx1q0 cx1q0) := fun w' h => h.keep cY12_x1_0
 have kcY12_x2_0 : ∀ w' : World, Gr Y12 w' → w'.cell? ⟨Y8.heap.size, 0, none⟩ = some (.slice ax2q0 lx2q0 cx2q0) := fun w' h => h.keep cY12_x2_0
 have kcY12_x2_1 : ∀ w' : World, Gr Y12 w' → w'.cell? ⟨Y8.heap.size, 1, none⟩ = some (.slice ax2q1 lx2q1 cx2q1) := fun w' h => h.keep cY12_x2_1
 have kcY12_x3_0 : ∀ w' : World, Gr Y12 w' → w'.cell? ⟨Y9.heap.size, 0, none⟩ = some (.slice ax3q0 lx3q0 cx3q0) := fun w' h => h.keep cY12_x3_0
 have kcY12_x3_1 : ∀ w' : World, Gr Y12 w' → w'.cell? ⟨Y9.heap.size, 1, none⟩ = some (.slice ax3q1 lx3q1 cx3q1) := fun w' h => h.keep cY12_x3_1
 go_region_held3 (fun w' => Gr Y12 w') (first | assumption | exact Gr.drew (Gr.refl _) | exact Gr.ext (by assumption) _)
   (first
     | ((go_at_call 11; refine (toTree_any _ _ t _ (Rd.gr HT.out (GWY12.trans (by assumption))) wtt).mono ?_; rintro e w' ⟨ds5, f5, rfl, s5, fr5, e1, rfl⟩))
     | ((go_at_call 16; refine (eqTree_any _ _ _ _ t t _ (Rd.gr rY12_x1.out (by assumption)) s5).mono ?_; rintro e w' ⟨rfl, e2, rfl⟩; rw [decide_eq_true rfl])))
 have hY13 : Gr Y12 ((Y12.drew.ext e1).ext e2) := by assumption
 generalize ((Y12.drew.ext e1).ext e2) = Y13 at hY13 ⊢
 clear kcY12_ag_0 kcY12_ag_1 kcY12_at_0 kcY12_ap_0 kcY12_ap_1 kcY12_am_0 kcY12_am_1 kcY12_x0_0 kcY12_x0_1 kcY12_x1_0 kcY12_x2_0 kcY12_x2_1 kcY12_x3_0 kcY12_x3_1
 have GY13 : Gr Y12 Y13 := ((Gr.refl _) : Gr Y12 Y12).trans hY13
 have GWY13 : Gr w Y13 := GWY12.trans GY13
 have ZY13 : Y12.heap.size ≤ Y13.heap.size := GY13.size
 have cY13_ag_0 : Y13.cell? ⟨w.heap.size, 0, none⟩ = some (.slice gaq0 glq0 gcq0) := GY13.keep cY12_ag_0
 have cY13_ag_1 : Y13.cell? ⟨w.heap.size, 1, none⟩ = some (.slice gaq1 glq1 gcq1) := GY13.keep cY12_ag_1
 have cY13_at_0 : Y13.cell? ⟨w.heap.size + 1, 0, none⟩ = some (.slice taq0 tlq0 tcq0) := GY13.keep cY12_at_0
 have cY13_ap_0 : Y13.cell? ⟨w.heap.size + 1 + 1, 0, none⟩ = some (.slice paq0 plq0 pcq0) := GY13.keep cY12_ap_0
 have cY13_ap_1 : Y13.cell? ⟨w.heap.size + 1 + 1, 1, none⟩ = some (.slice paq1 plq1 pcq1) := GY13.keep cY12_ap_1
 have cY13_am_0 : Y13.cell? ⟨w.heap.size + 1 + 1 + 1, 0, none⟩ = some (.slice maq0 mlq0 mcq0) := GY13.keep cY12_am_0
 have cY13_am_1 : Y13.cell? ⟨w.heap.size + 1 + 1 + 1, 1, none⟩ = some (.slice maq1 mlq1 mcq1) := GY13.keep cY12_am_1
 have cY13_x0_0 : Y13.cell? ⟨Y6.heap.size, 0, none⟩ = some (.slice ax0q0 lx0q0 cx0q0) := GY13.keep cY12_x0_0
 have cY13_x0_1 : Y13.cell? ⟨Y6.heap.size, 1, none⟩ = some (.slice ax0q1 lx0q1 cx0q1) := GY13.keep cY12_x0_1
 have cY13_x1_0 : Y13.cell? ⟨Y7.heap.size, 0, none⟩ = some (.slice ax1q0 lx1q0 cx1q0) := GY13.keep cY12_x1_0
 have cY13_x2_0 : Y13.cell? ⟨Y8.heap.size, 0, none⟩ = some (.slice ax2q0 lx2q0 cx2q0) := GY13.keep cY12_x2_0
 have cY13_x2_1 : Y13.cell? ⟨Y8.heap.size, 1, none⟩ = some (.slice ax2q1 lx2q1 cx2q1) := GY13.keep cY12_x2_1
 have cY13_x3_0 : Y13.cell? ⟨Y9.heap.size, 0, none⟩ = some (.slice ax3q0 lx3q0 cx3q0) := GY13.keep cY12_x3_0
 have cY13_x3_1 : Y13.cell? ⟨Y9.heap.size, 1, none⟩ = some (.slice ax3q1 lx3q1 cx3q1) := GY13.keep cY12_x3_1
 have zY13_ag := blk cY13_ag_0
 have zY13_at := blk cY13_at_0
 have zY13_ap := blk cY13_ap_0
 have zY13_am := blk cY13_am_0
 have zY13_x0 := blk cY13_x0_0
 have zY13_x1 := blk cY13_x1_0
 have zY13_x2 := blk cY13_x2_0
 have zY13_x3 := blk cY13_x3_0
 have rY13_w0 := Lib.hid (SlR.gr rY12_w0.out GY13)
 have rY13_x0 := Lib.hid (Rd.gr rY12_x0.out GY13)
 have rY13_x1 := Lib.hid (Rd.gr rY12_x1.out GY13)
 have rY13_x2 := Lib.hid (Rd.gr rY12_x2.out GY13)
 have rY13_x3 := Lib.hid (Rd.gr rY12_x3.out GY13)
 have rY13_g0 := Lib.hid (SlR.gr rY12_g0.out GY13)
 clear cY12_ag_0 cY12_ag_1 cY12_at_0 cY12_ap_0 cY12_ap_1 cY12_am_0 cY12_am_1 cY12_x0_0 cY12_x0_1 cY12_x1_0 cY12_x2_0 cY12_x2_1 cY12_x3_0 cY12_x3_1
 clear s5 fr5
 go_wp2_with fail
 have kcY13_ag_0 : ∀ w' : World, Gr Y13 w' → w'.cell? ⟨w.heap.size, 0, none⟩ = some (.slice gaq0 glq0 gcq0) := fun w' h => h.keep cY13_ag_0
 have kcY13_ag_1 : ∀ w' : World, Gr Y13 w' → w'.cell? ⟨w.heap.size, 1, none⟩ = some (.slice gaq1 glq1 gcq1) := fun w' h => h.keep cY13_ag_1
 have kcY13_at_0 : ∀ w' : World, Gr Y13 w' → w'.cell? ⟨w.heap.size + 1, 0, none⟩ = some (.slice taq0 tlq0 tcq0) := fun w' h => h.keep cY13_at_0
 have kcY13_ap_0 : ∀ w' : World, Gr Y13 w' → w'.cell? ⟨w.heap.size + 1 + 1, 0, none⟩ = some (.slice paq0 plq0 pcq0) := fun w' h => h.keep cY13_ap_0
 have kcY13_ap_1 : ∀ w' : World, Gr Y13 w' → w'.cell? ⟨w.heap.size + 1 + 1, 1, none⟩ = some (.slice paq1 plq1 pcq1) := fun w' h => h.keep cY13_ap_1
 have kcY13_am_0 : ∀ w' : World, Gr Y13 w' → w'.cell? ⟨w.heap.size + 1 + 1 + 1, 0, none⟩ = some (.slice maq0 mlq0 mcq0) := fun w' h => h.keep cY13_am_0
 have kcY13_am_1 : ∀ w' : World, Gr Y13 w' → w'.cell? ⟨w.heap.size + 1 + 1 + 1, 1, none⟩ = some (.slice maq1 mlq1 mcq1) := fun w' h => h.keep cY13_am_1
 have kcY13_x0_0 : ∀ w' : World, Gr Y13 w' → w'.cell? ⟨Y6.heap.size, 0, none⟩ = some (.slice ax0q0 lx0q0 cx0q0) := fun w' h => h.keep cY13_x0_0
 have kcY13_x0_1 : ∀ w' : World, Gr Y13 w' → w'.cell? ⟨Y6.heap.size, 1, none⟩ = some (.slice ax0q1 lx0q1 cx0q1) := fun w' h => h.keep cY13_x0_1
 have kcY13_x1_0 : ∀ w' : World, Gr Y13 w' → w'.cell? ⟨Y7.heap.size, 0, none⟩ = some (.slice ax1q0 lx1q0 cx1q0) := fun w' h => h.keep cY13_x1_0
 have kcY13_x2_0 : ∀ w' : World, Gr Y13 w' → w'.cell? ⟨Y8.heap.size, 0, none⟩ = some (.slice ax2q0 lx2q0 cx2q0) := fun w' h => h.keep cY13_x2_0
 have kcY13_x2_1 : ∀ w' : World, Gr Y13 w' → w'.cell? ⟨Y8.heap.size, 1, none⟩ = some (.slice ax2q1 lx2q1 cx2q1) := fun w' h => h.keep cY13_x2_1
 have kcY13_x3_0 : ∀ w' : World, Gr Y13 w' → w'.cell? ⟨Y9.heap.size, 0, none⟩ = some (.slice ax3q0 lx3q0 cx3q0) := fun w' h => h.keep cY13_x3_0
 have kcY13_x3_1 : ∀ w' : World, Gr Y13 w' → w'.cell? ⟨Y9.heap.size, 1, none⟩ = some (.slice ax3q1 lx3q1 cx3q1) := fun w' h => h.keep cY13_x3_1
 go_region_held3 (fun w' => Gr Y13 w') (first | assumption | exact Gr.drew (Gr.refl _) | exact Gr.ext (by assumption) _)
   (first
     | ((go_at_call 23; refine (toMemo_any _ _ p _ (Rd.gr HP.out (GWY13.trans (by assumption))) wtp).mono ?_; rintro e w' ⟨ds5, f5, rfl, s5, fr5, e1, rfl⟩))
     | ((go_at_call 25; refine (eqMemo_any _ _ _ _ p p _ (Rd.gr rY13_x2.out (by assumption)) s5).mono ?_; rintro e w' ⟨rfl, e2, rfl⟩; rw [decide_eq_true rfl])))
 have hY14 : Gr Y13 ((Y13.drew.ext e1).ext e2) := by assumption
 generalize ((Y13.drew.ext e1).ext e2) = Y14 at hY14 ⊢
 clear kcY13_ag_0 kcY13_ag_1 kcY13_at_0 kcY13_ap_0 kcY13_ap_1 kcY13_am_0 kcY13_am_1 kcY13_x0_0 kcY13_x0_1 kcY13_x1_0 kcY13_x2_0 kcY13_x2_1 kcY13_x3_0 kcY13_x3_1
 have GY14 : Gr Y13 Y14 := ((Gr.refl _) : Gr Y13 Y13).trans hY14
 have GWY14 : Gr w Y14 := GWY13.trans GY14
 have ZY14 : Y13.heap.size ≤ Y14.heap.size := GY14.size
 have cY14_ag_0 : Y14.cell? ⟨w.heap.size, 0, none⟩ = some (.slice gaq0 glq0 gcq0) := GY14.keep cY13_ag_0
 have cY14_ag_1 : Y14.cell? ⟨w.heap.size, 1, none⟩ = some (.slice gaq1 glq1 gcq1) := GY14.keep cY13_ag_1
 have cY14_at_0 : Y14.cell? ⟨w.heap.size + 1, 0, none⟩ = some (.slice taq0 tlq0 tcq0) := GY14.keep cY13_at_0
 have cY14_ap_0 : Y14.cell? ⟨w.heap.size + 1 + 1, 0, none⟩ = some (.slice paq0 plq0 pcq0) := GY14.keep cY13_ap_0
 have cY14_ap_1 : Y14.cell? ⟨w.heap.size + 1 + 1, 1, none⟩ = some (.slice paq1 plq1 pcq1) := GY14.keep cY13_ap_1
 have cY14_am_0 : Y14.cell? ⟨w.heap.size + 1 + 1 + 1, 0, none⟩ = some (.slice maq0 mlq0 mcq0) := GY14.keep cY13_am_0
 have cY14_am_1 : Y14.cell? ⟨w.heap.size + 1 + 1 + 1, 1, none⟩ = some (.slice maq1 mlq1 mcq1) := GY14.keep cY13_am_1
 have cY14_x0_0 : Y14.cell? ⟨Y6.heap.size, 0, none⟩ = some (.slice ax0q0 lx0q0 cx0q0) := GY14.keep cY13_x0_0
 have cY14_x0_1 : Y14.cell? ⟨Y6.heap.size, 1, none⟩ = some (.slice ax0q1 lx0q1 cx0q1) := GY14.keep cY13_x0_1
 have cY14_x1_0 : Y14.cell? ⟨Y7.heap.size, 0, none⟩ = some (.slice ax1q0 lx1q0 cx1q0) := GY14.keep cY13_x1_0
 have cY14_x2_0 : Y14.cell? ⟨Y8.heap.size, 0, none⟩ = some (.slice ax2q0 lx2q0 cx2q0) := GY14.keep cY13_x2_0
 have cY14_x2_1 : Y14.cell? ⟨Y8.heap.size, 1, none⟩ = some (.slice ax2q1 lx2q1 cx2q1) := GY14.keep cY13_x2_1
 have cY14_x3_0 : Y14.cell? ⟨Y9.heap.size, 0, none⟩ = some (.slice ax3q0 lx3q0 cx3q0) := GY14.keep cY13_x3_0
 have cY14_x3_1 : Y14.cell? ⟨Y9.heap.size, 1, none⟩ = some (.slice ax3q1 lx3q1 cx3q1) := GY14.keep cY13_x3_1
 have zY14_ag := blk cY14_ag_0
 have zY14_at := blk cY14_at_0
 have zY14_ap := blk cY14_ap_0
 have zY14_am := blk cY14_am_0
 have zY14_x0 := blk cY14_x0_0
 have zY14_x1 := blk cY14_x1_0
 have zY14_x2 := blk cY14_x2_0
 have zY14_x3 := blk cY14_x3_0
 have rY14_w0 := Lib.hid (SlR.gr rY13_w0.out GY14)
 have rY14_x0 := Lib.hid (Rd.gr rY13_x0.out GY14)
 have rY14_x1 := Lib.hid (Rd.gr rY13_x1.out GY14)
 have rY14_x2 := Lib.hid (Rd.gr rY13_x2.out GY14)
 have rY14_x3 := Lib.hid (Rd.gr rY13_x3.out GY14)
 have rY14_g0 := Lib.hid (SlR.gr rY13_g0.out GY14)
 clear cY13_ag_0 cY13_ag_1 cY13_at_0 cY13_ap_0 cY13_ap_1 cY13_am_0 cY13_am_1 cY13_x0_0 cY13_x0_1 cY13_x1_0 cY13_x2_0 cY13_x2_1 cY13_x3_0 cY13_x3_1
 clear s5 fr5
 go_wp2_with fail
 have kcY14_ag_0 : ∀ w' : World, Gr Y14 w' → w'.cell? ⟨w.heap.size, 0, none⟩ = some (.slice gaq0 glq0 gcq0) := fun w' h => h.keep cY14_ag_0
 have kcY14_ag_1 : ∀ w' : World, Gr Y14 w' → w'.cell? ⟨w.heap.size, 1, none⟩ = some (.slice gaq1 glq1 gcq1) := fun w' h => h.keep cY14_ag_1
 have kcY14_at_0 : ∀ w' : World, Gr Y14 w' → w'.cell? ⟨w.heap.size + 1, 0, none⟩ = some (.slice taq0 tlq0 tcq0) := fun w' h => h.keep cY14_at_0
 have kcY14_ap_0 : ∀ w' : World, Gr Y14 w' → w'.cell? ⟨w.heap.size + 1 + 1, 0, none⟩ = some (.slice paq0 plq0 pcq0) := fun w' h => h.keep cY14_ap_0
 have kcY14_ap_1 : ∀ w' : World, Gr Y14 w' → w'.cell? ⟨w.heap.size + 1 + 1, 1, none⟩ = some (.slice paq1 plq1 pcq1) := fun w' h => h.keep cY14_ap_1
 have kcY14_am_0 : ∀ w' : World, Gr Y14 w' → w'.cell? ⟨w.heap.size + 1 + 1 + 1, 0, none⟩ = some (.slice maq0 mlq0 mcq0) := fun w' h => h.keep cY14_am_0
 have kcY14_am_1 : ∀ w' : World, Gr Y14 w' → w'.cell? ⟨w.heap.size + 1 + 1 + 1, 1, none⟩ = some (.slice maq1 mlq1 mcq1) := fun w' h => h.keep cY14_am_1
 have kcY14_x0_0 : ∀ w' : World, Gr Y14 w' → w'.cell? ⟨Y6.heap.size, 0, none⟩ = some (.slice ax0q0 lx0q0 cx0q0) := fun w' h => h.keep cY14_x0_0
 have kcY14_x0_1 : ∀ w' : World, Gr Y14 w' → w'.cell? ⟨Y6.heap.size, 1, none⟩ = some (.slice ax0q1 lx0q1 cx0q1) := fun w' h => h.keep cY14_x0_1
 have kcY14_x1_0 : ∀ w' : World, Gr Y14 w' → w'.cell? ⟨Y7.heap.size, 0, none⟩ = some (.slice ax1q0 lx1q0 cx1q0) := fun w' h => h.keep cY14_x1_0
 have kcY14_x2_0 : ∀ w' : World, Gr Y14 w' → w'.cell? ⟨Y8.heap.size, 0, none⟩ = some (.slice ax2q0 lx2q0 cx2q0) := fun w' h => h.keep cY14_x2_0
 have kcY14_x2_1 : ∀ w' : World, Gr Y14 w' → w'.cell? ⟨Y8.heap.size, 1, none⟩ = some (.slice ax2q1 lx2q1 cx2q1) := fun w' h => h.keep cY14_x2_1
 have kcY14_x3_0 : ∀ w' : World, Gr Y14 w' → w'.cell? ⟨Y9.heap.size, 0, none⟩ = some (.slice ax3q0 lx3q0 cx3q0) := fun w' h => h.keep cY14_x3_0
 have kcY14_x3_1 : ∀ w' : World, Gr Y14 w' → w'.cell? ⟨Y9.heap.size, 1, none⟩ = some (.slice ax3q1 lx3q1 cx3q1) := fun w' h => h.keep cY14_x3_1
 go_region_held3 (fun w' => Gr Y14 w') (first | assumption | exact Gr.drew (Gr.refl _) | exact Gr.ext (by assumption) _)
   (first
     | ((go_at_call 23; refine (toMemo_any _ _ m _ (Rd.gr HM.out (GWY14.trans (by assumption))) wtm).mono ?_; rintro e w' ⟨ds5, f5, rfl, s5, fr5, e1, rfl⟩))
     | ((go_at_call 25; refine (eqMemo_any _ _ _ _ m m _ (Rd.gr rY14_x3.out (by assumption)) s5).mono ?_; rintro e w' ⟨rfl, e2, rfl⟩; rw [decide_eq_true rfl])))
 have hY15 : Gr Y14 ((Y14.drew.ext e1).ext e2) := by assumption
 generalize ((Y14.drew.ext e1).ext e2) = Y15 at hY15 ⊢
 clear kcY14_ag_0 kcY14_ag_1 kcY14_at_0 kcY14_ap_0 kcY14_ap_1 kcY14_am_0 kcY14_am_1 kcY14_x0_0 kcY14_x0_1 kcY14_x1_0 kcY14_x2_0 kcY14_x2_1 kcY14_x3_0 kcY14_x3_1
 have GY15 : Gr Y14 Y15 := ((Gr.refl _) : Gr Y14 Y14).trans hY15
 have GWY15 : Gr w Y15 := GWY14.trans GY15
 have ZY15 : Y14.heap.size ≤ Y15.heap.size := GY15.size
 have cY15_ag_0 : Y15.cell? ⟨w.heap.size, 0, none⟩ = some (.slice gaq0 glq0 gcq0) := GY15.keep cY14_ag_0
 have cY15_ag_1 : Y15.cell? ⟨w.heap.size, 1, none⟩ = some (.slice gaq1 glq1 gcq1) := GY15.keep cY14_ag_1
 have cY15_at_0 : Y15.cell? ⟨w.heap.size + 1, 0, none⟩ = some (.slice taq0 tlq0 tcq0) := GY15.keep cY14_at_0
 have cY15_ap_0 : Y15.cell? ⟨w.heap.size + 1 + 1, 0, none⟩ = some (.slice paq0 plq0 pcq0) := GY15.keep cY14_ap_0
 have cY15_ap_1 : Y15.cell? ⟨w.heap.size + 1 + 1, 1, none⟩ = some (.slice paq1 plq1 pcq1) := GY15.keep cY14_ap_1
 have cY15_am_0 : Y15.cell? ⟨w.heap.size + 1 + 1 + 1, 0, none⟩ = some (.slice maq0 mlq0 mcq0) := GY15.keep cY14_am_0
 have cY15_am_1 : Y15.cell? ⟨w.heap.size + 1 + 1 + 1, 1, none⟩ = some (.slice maq1 mlq1 mcq1) := GY15.keep cY14_am_1
 have cY15_x0_0 : Y15.cell? ⟨Y6.heap.size, 0, none⟩ = some (.slice ax0q0 lx0q0 cx0q0) := GY15.keep cY14_x0_0
 have cY15_x0_1 : Y15.cell? ⟨Y6.heap.size, 1, none⟩ = some (.slice ax0q1 lx0q1 cx0q1) := GY15.keep cY14_x0_1
 have cY15_x1_0 : Y15.cell? ⟨Y7.heap.size, 0, none⟩ = some (.slice ax1q0 lx1q0 cx1q0) := GY15.keep cY14_x1_0
 have cY15_x2_0 : Y15.cell? ⟨Y8.heap.size, 0, none⟩ = some (.slice ax2q0 lx2q0 cx2q0) := GY15.keep cY14_x2_0
 have cY15_x2_1 : Y15.cell? ⟨Y8.heap.size, 1, none⟩ = some (.slice ax2q1 lx2q1 cx2q1) := GY15.keep cY14_x2_1
 have cY15_x3_0 : Y15.cell? ⟨Y9.heap.size, 0, none⟩ = some (.slice ax3q0 lx3q0 cx3q0) := GY15.keep cY14_x3_0
 have cY15_x3_1 : Y15.cell? ⟨Y9.heap.size, 1, none⟩ = some (.slice ax3q1 lx3q1 cx3q1) := GY15.keep cY14_x3_1
 have zY15_ag := blk cY15_ag_0
 have zY15_at := blk cY15_at_0
 have zY15_ap := blk cY15_ap_0
 have zY15_am := blk cY15_am_0
 have zY15_x0 := blk cY15_x0_0
 have zY15_x1 := blk cY15_x1_0
 have zY15_x2 := blk cY15_x2_0
 have zY15_x3 := blk cY15_x3_0
 have rY15_w0 := Lib.hid (SlR.gr rY14_w0.out GY15)
 have rY15_x0 := Lib.hid (Rd.gr rY14_x0.out GY15)
 have rY15_x1 := Lib.hid (Rd.gr rY14_x1.out GY15)
 have rY15_x2 := Lib.hid (Rd.gr rY14_x2.out GY15)
 have rY15_x3 := Lib.hid (Rd.gr rY14_x3.out GY15)
 have rY15_g0 := Lib.hid (SlR.gr rY14_g0.out GY15)
 clear cY14_ag_0 cY14_ag_1 cY14_at_0 cY14_ap_0 cY14_ap_1 cY14_am_0 cY14_am_1 cY14_x0_0 cY14_x0_1 cY14_x1_0 cY14_x2_0 cY14_x2_1 cY14_x3_0 cY14_x3_1
 clear s5 fr5
 go_wp2_with fail
 refine (markGrammar_any fx0 _ g 1 _ rY15_x0.out F_x0.out.1 (by omega) (by have := vGrammar_bd 1 g; omega)).mono ?_
 rintro e Y16 ⟨rfl, sY16, gY16⟩
 have bk1 := vGrammar_bd 1 g
 obtain ⟨k1, hk1⟩ : ∃ k, k = (vGrammar 1 g).2 := ⟨_, rfl⟩
 rw [← hk1] at bk1 ⊢
 clear hk1
 have rY16_m := Lib.hid sY16
 clear sY16
 have ZY16 : Y15.heap.size ≤ Y16.heap.size := Nat.le_trans (Gr.size ((Gr.refl _) : Gr Y15 Y15)) gY16.size
 have GWY16 : Gr w Y16 := Gr.wr GWY15 gY16 (fun b hb => by have a1 := F_x0.out.2 b hb; omega)
 have cY16_ag_0 : Y16.cell? ⟨w.heap.size, 0, none⟩ = some (.slice gaq0 glq0 gcq0) := (World.cell?_of_block (gY16.block _ (blk (((Gr.refl _) : Gr Y15 Y15).keep cY15_ag_0)) (fun h => by have a1 := F_x0.out.2 (w.heap.size) h; have a2 := L_x0.out (w.heap.size) h; omega))).trans (((Gr.refl _) : Gr Y15 Y15).keep cY15_ag_0)
 have cY16_ag_1 : Y16.cell? ⟨w.heap.size, 1, none⟩ = some (.slice gaq1 glq1 gcq1) := (World.cell?_of_block (gY16.block _ (blk (((Gr.refl _) : Gr Y15 Y15).keep cY15_ag_1)) (fun h => by have a1 := F_x0.out.2 (w.heap.size) h; have a2 := L_x0.out (w.heap.size) h; omega))).trans (((Gr.refl _) : Gr Y15 Y15).keep cY15_ag_1)
 have cY16_at_0 : Y16.cell? ⟨w.heap.size + 1, 0, none⟩ = some (.slice taq0 tlq0 tcq0) := (World.cell?_of_block (gY16.block _ (blk (((Gr.refl _) : Gr Y15 Y15).keep cY15_at_0)) (fun h => by have a1 := F_x0.out.2 (w.heap.size + 1) h; have a2 := L_x0.out (w.heap.size + 1) h; omega))).trans (((Gr.refl _) : Gr Y15 Y15).keep cY15_at_0)
 have cY16_ap_0 : Y16.cell? ⟨w.heap.size + 1 + 1, 0, none⟩ = some (.slice paq0 plq0 pcq0) := (World.cell?_of_block (gY16.block _ (blk (((Gr.refl _) : Gr Y15 Y15).keep cY15_ap_0)) (fun h => by have a1 := F_x0.out.2 (w.heap.size + 1 + 1) h; have a2 := L_x0.out (w.heap.size + 1 + 1) h; omega))).trans (((Gr.refl _) : Gr Y15 Y15).keep cY15_ap_0)
 have cY16_ap_1 : Y16.cell? ⟨w.heap.size + 1 + 1, 1, none⟩ = some (.slice paq1 plq1 pcq1) := (World.cell?_of_block (gY16.block _ (blk (((Gr.refl _) : Gr Y15 Y15).keep cY15_ap_1)) (fun h => by have a1 := F_x0.out.2 (w.heap.size + 1 + 1) h; have a2 := L_x0.out (w.heap.size + 1 + 1) h; omega))).trans (((Gr.refl _) : Gr Y15 Y15).keep cY15_ap_1)
 have cY16_am_0 : Y16.cell? ⟨w.heap.size + 1 + 1 + 1, 0, none⟩ = some (.slice maq0 mlq0 mcq0) := (World.cell?_of_block (gY16.block _ (blk (((Gr.refl _) : Gr Y15 Y15).keep cY15_am_0)) (fun h => by have a1 := F_x0.out.2 (w.heap.size + 1 + 1 + 1) h; have a2 := L_x0.out (w.heap.size + 1 + 1 + 1) h; omega))).trans (((Gr.refl _) : Gr Y15 Y15).keep cY15_am_0)
 have cY16_am_1 : Y16.cell? ⟨w.heap.size + 1 + 1 + 1, 1, none⟩ = some (.slice maq1 mlq1 mcq1) := (World.cell?_of_block (gY16.block _ (blk (((Gr.refl _) : Gr Y15 Y15).keep cY15_am_1)) (fun h => by have a1 := F_x0.out.2 (w.heap.size + 1 + 1 + 1) h; have a2 := L_x0.out (w.heap.size + 1 + 1 + 1) h; omega))).trans (((Gr.refl _) : Gr Y15 Y15).keep cY15_am_1)
 have cY16_x0_0 : Y16.cell? ⟨Y6.heap.size, 0, none⟩ = some (.slice ax0q0 lx0q0 cx0q0) := (World.cell?_of_block (gY16.block _ (blk (((Gr.refl _) : Gr Y15 Y15).keep cY15_x0_0)) (fun h => by have a1 := F_x0.out.2 (Y6.heap.size) h; have a2 := L_x0.out (Y6.heap.size) h; omega))).trans (((Gr.refl _) : Gr Y15 Y15).keep cY15_x0_0)
 have cY16_x0_1 : Y16.cell? ⟨Y6.heap.size, 1, none⟩ = some (.slice ax0q1 lx0q1 cx0q1) := (World.cell?_of_block (gY16.block _ (blk (((Gr.refl _) : Gr Y15 Y15).keep cY15_x0_1)) (fun h => by have a1 := F_x0.out.2 (Y6.heap.size) h; have a2 := L_x0.out (Y6.heap.size) h; omega))).trans (((Gr.refl _) : Gr Y15 Y15).keep cY15_x0_1)
 have cY16_x1_0 : Y16.cell? ⟨Y7.heap.size, 0, none⟩ = some (.slice ax1q0 lx1q0 cx1q0) := (World.cell?_of_block (gY16.block _ (blk (((Gr.refl _) : Gr Y15 Y15).keep cY15_x1_0)) (fun h => by have a1 := F_x0.out.2 (Y7.heap.size) h; have a2 := L_x0.out (Y7.heap.size) h; omega))).trans (((Gr.refl _) : Gr Y15 Y15).keep cY15_x1_0)
 have cY16_x2_0 : Y16.cell? ⟨Y8.heap.size, 0, none⟩ = some (.slice ax2q0 lx2q0 cx2q0) := (World.cell?_of_block (gY16.block _ (blk (((Gr.refl _) : Gr Y15 Y15).keep cY15_x2_0)) (fun h => by have a1 := F_x0.out.2 (Y8.heap.size) h; have a2 := L_x0.out (Y8.heap.size) h; omega))).trans (((Gr.refl _) : Gr Y15 Y15).keep cY15_x2_0)
 have cY16_x2_1 : Y16.cell? ⟨Y8.heap.size, 1, none⟩ = some (.slice ax2q1 lx2q1 cx2q1) := (World.cell?_of_block (gY16.block _ (blk (((Gr.refl _) : Gr Y15 Y15).keep cY15_x2_1)) (fun h => by have a1 := F_x0.out.2 (Y8.heap.size) h; have a2 := L_x0.out (Y8.heap.size) h; omega))).trans (((Gr.refl _) : Gr Y15 Y15).keep cY15_x2_1)
 have cY16_x3_0 : Y16.cell? ⟨Y9.heap.size, 0, none⟩ = some (.slice ax3q0 lx3q0 cx3q0) := (World.cell?_of_block (gY16.block _ (blk (((Gr.refl _) : Gr Y15 Y15).keep cY15_x3_0)) (fun h => by have a1 := F_x0.out.2 (Y9.heap.size) h; have a2 := L_x0.out (Y9.heap.size) h; omega))).trans (((Gr.refl _) : Gr Y15 Y15).keep cY15_x3_0)
 have cY16_x3_1 : Y16.cell? ⟨Y9.heap.size, 1, none⟩ = some (.slice ax3q1 lx3q1 cx3q1) := (World.cell?_of_block (gY16.block _ (blk (((Gr.refl _) : Gr Y15 Y15).keep cY15_x3_1)) (fun h => by have a1 := F_x0.out.2 (Y9.heap.size) h; have a2 := L_x0.out (Y9.heap.size) h; omega))).trans (((Gr.refl _) : Gr Y15 Y15).keep cY15_x3_1)
 have zY16_ag := blk cY16_ag_0
 have zY16_at := blk cY16_at_0
 have zY16_ap := blk cY16_ap_0
 have zY16_am := blk cY16_am_0
 have zY16_x0 := blk cY16_x0_0
 have zY16_x1 := blk cY16_x1_0
 have zY16_x2 := blk cY16_x2_0
 have zY16_x3 := blk cY16_x3_0
 have rY16_w0 := Lib.hid (SlR.wr (SlR.gr rY15_w0.out ((Gr.refl _) : Gr Y15 Y15)) gY16 (fun b h1 h2 => by have a1 := F_x0.out.2 _ h2; have a2 := L_x0.out _ h2; have a3 := F_w0.out.2 _ h1; have a4 := L_w0.out _ h1; omega))
 have rY16_x1 := Lib.hid (Rd.wr (Rd.gr rY15_x1.out ((Gr.refl _) : Gr Y15 Y15)) gY16 (fun b h1 h2 => by have a1 := F_x0.out.2 _ h2; have a2 := L_x0.out _ h2; have a3 := F_x1.out.2 _ h1; have a4 := L_x1.out _ h1; omega))
 have rY16_x2 := Lib.hid (Rd.wr (Rd.gr rY15_x2.out ((Gr.refl _) : Gr Y15 Y15)) gY16 (fun b h1 h2 => by have a1 := F_x0.out.2 _ h2; have a2 := L_x0.out _ h2; have a3 := F_x2.out.2 _ h1; have a4 := L_x2.out _ h1; omega))
 have rY16_x3 := Lib.hid (Rd.wr (Rd.gr rY15_x3.out ((Gr.refl _) : Gr Y15 Y15)) gY16 (fun b h1 h2 => by have a1 := F_x0.out.2 _ h2; have a2 := L_x0.out _ h2; have a3 := F_x3.out.2 _ h1; have a4 := L_x3.out _ h1; omega))
 have rY16_g0 := Lib.hid (SlR.wr (SlR.gr rY15_g0.out ((Gr.refl _) : Gr Y15 Y15)) gY16 (fun b h1 h2 => by have a1 := F_x0.out.2 _ h2; have a2 := L_x0.out _ h2; have a3 := F_g0.out.2 _ h1; have a4 := L_g0.out _ h1; omega))
 clear cY15_ag_0 cY15_ag_1 cY15_at_0 cY15_ap_0 cY15_ap_1 cY15_am_0 cY15_am_1 cY15_x0_0 cY15_x0_1 cY15_x1_0 cY15_x2_0 cY15_x2_1 cY15_x3_0 cY15_x3_1
 go_wp2_with fail
 refine (markTree_any fx1 _ t k1 _ rY16_x1.out F_x1.out.1 (by omega) (by have := vTree_bd k1 t; omega)).mono ?_
 rintro e Y17 ⟨rfl, sY17, gY17⟩
 have bk2 := vTree_bd k1 t
 obtain ⟨k2, hk2⟩ : ∃ k, k = (vTree k1 t).2 := ⟨_, rfl⟩
 rw [← hk2] at bk2 ⊢
 clear hk2
 have rY17_m := Lib.hid sY17
 clear sY17
 have ZY17 : Y16.heap.size ≤ Y17.heap.size := Nat.le_trans (Gr.size ((Gr.refl _) : Gr Y16 Y16)) gY17.size
 have GWY17 : Gr w Y17 := Gr.wr GWY16 gY17 (fun b hb => by have a1 := F_x1.out.2 b hb; omega)
 have cY17_ag_0 : Y17.cell? ⟨w.heap.size, 0, none⟩ = some (.slice gaq0 glq0 gcq0) := (World.cell?_of_block (gY17.block _ (blk (((Gr.refl _) : Gr Y16 Y16).keep cY16_ag_0)) (fun h => by have a1 := F_x1.out.2 (w.heap.size) h; have a2 := L_x1.out (w.heap.size) h; omega))).trans (((Gr.refl _) : Gr Y16 Y16).keep cY16_ag_0)
 have cY17_ag_1 : Y17.cell? ⟨w.heap.size, 1, none⟩ = some (.slice gaq1 glq1 gcq1) := (World.cell?_of_block (gY17.block _ (blk (((Gr.refl _) : Gr Y16 Y16).keep cY16_ag_1)) (fun h => by have a1 := F_x1.out.2 (w.heap.size) h; have a2 := L_x1.out (w.heap.size) h; omega))).trans (((Gr.refl _) : Gr Y16 Y16).keep cY16_ag_1)
 have cY17_at_0 : Y17.cell? ⟨w.heap.size + 1, 0, none⟩ = some (.slice taq0 tlq0 tcq0) := (World.cell?_of_block (gY17.block _ (blk (((Gr.refl _) : Gr Y16 Y16).keep cY16_at_0)) (fun h => by have a1 := F_x1.out.2 (w.heap.size + 1) h; have a2 := L_x1.out (w.heap.size + 1) h; omega))).trans (((Gr.refl _) : Gr Y16 Y16).keep cY16_at_0)
 have cY17_ap_0 : Y17.cell? ⟨w.heap.size + 1 + 1, 0, none⟩ = some (.slice paq0 plq0 pcq0) := (World.cell?_of_block (gY17.block _ (blk (((Gr.refl _) : Gr Y16 Y16).keep cY16_ap_0)) (fun h => by have a1 := F_x1.out.2 (w.heap.size + 1 + 1) h; have a2 := L_x1.out (w.heap.size + 1 + 1) h; omega))).trans (((Gr.refl _) : Gr Y16 Y16).keep cY16_ap_0)
 have cY17_ap_1 : Y17.cell? ⟨w.heap.size + 1 + 1, 1, none⟩ = some (.slice paq1 plq1 pcq1) := (World.cell?_of_block (gY17.block _ (blk (((Gr.refl _) : Gr Y16 Y16).keep cY16_ap_1)) (fun h => by have a1 := F_x1.out.2 (w.heap.size + 1 + 1) h; have a2 := L_x1.out (w.heap.size + 1 + 1) h; omega))).trans (((Gr.refl _) : Gr Y16 Y16).keep cY16_ap_1)
 have cY17_am_0 : Y17.cell? ⟨w.heap.size + 1 + 1 + 1, 0, none⟩ = some (.slice maq0 mlq0 mcq0) := (World.cell?_of_block (gY17.block _ (blk (((Gr.refl _) : Gr Y16 Y16).keep cY16_am_0)) (fun h => by have a1 := F_x1.out.2 (w.heap.size + 1 + 1 + 1) h; have a2 := L_x1.out (w.heap.size + 1 + 1 + 1) h; omega))).trans (((Gr.refl _) : Gr Y16 Y16).keep cY16_am_0)
 have cY17_am_1 : Y17.cell? ⟨w.heap.size + 1 + 1 + 1, 1, none⟩ = some (.slice maq1 mlq1 mcq1) := (World.cell?_of_block (gY17.block _ (blk (((Gr.refl _) : Gr Y16 Y16).keep cY16_am_1)) (fun h => by have a1 := F_x1.out.2 (w.heap.size + 1 + 1 + 1) h; have a2 := L_x1.out (w.heap.size + 1 + 1 + 1) h; omega))).trans (((Gr.refl _) : Gr Y16 Y16).keep cY16_am_1)
 have cY17_x0_0 : Y17.cell? ⟨Y6.heap.size, 0, none⟩ = some (.slice ax0q0 lx0q0 cx0q0) := (World.cell?_of_block (gY17.block _ (blk (((Gr.refl _) : Gr Y16 Y16).keep cY16_x0_0)) (fun h => by have a1 := F_x1.out.2 (Y6.heap.size) h; have a2 := L_x1.out (Y6.heap.size) h; omega))).trans (((Gr.refl _) : Gr Y16 Y16).keep cY16_x0_0)
 have cY17_x0_1 : Y17.cell? ⟨Y6.heap.size, 1, none⟩ = some (.slice ax0q1 lx0q1 cx0q1) := (World.cell?_of_block (gY17.block _ (blk (((Gr.refl _) : Gr Y16 Y16).keep cY16_x0_1)) (fun h => by have a1 := F_x1.out.2 (Y6.heap.size) h; have a2 := L_x1.out (Y6.heap.size) h; omega))).trans (((Gr.refl _) : Gr Y16 Y16).keep cY16_x0_1)
 have cY17_x1_0 : Y17.cell? ⟨Y7.heap.size, 0, none⟩ = some (.slice ax1q0 lx1q0 cx1q0) := (World.cell?_of_block (gY17.block _ (blk (((Gr.refl _) : Gr Y16 Y16).keep cY16_x1_0)) (fun h => by have a1 := F_x1.out.2 (Y7.heap.size) h; have a2 := L_x1.out (Y7.heap.size) h; omega))).trans (((Gr.refl _) : Gr Y16 Y16).keep cY16_x1_0)
 have cY17_x2_0 : Y17.cell? ⟨Y8.heap.size, 0, none⟩ = some (.slice ax2q0 lx2q0 cx2q0) := (World.cell?_of_block (gY17.block _ (blk (((Gr.refl _) : Gr Y16 Y16).keep cY16_x2_0)) (fun h => by have a1 := F_x1.out.2 (Y8.heap.size) h; have a2 := L_x1.out (Y8.heap.size) h; omega))).trans (((Gr.refl _) : Gr Y16 Y16).keep cY16_x2_0)
 have cY17_x2_1 : Y17.cell? ⟨Y8.heap.size, 1, none⟩ = some (.slice ax2q1 lx2q1 cx2q1) := (World.cell?_of_block (gY17.block _ (blk (((Gr.refl _) : Gr Y16 Y16).keep cY16_x2_1)) (fun h => by have a1 := F_x1.out.2 (Y8.heap.size) h; have a2 := L_x1.out (Y8.heap.size) h; omega))).trans (((Gr.refl _) : Gr Y16 Y16).keep cY16_x2_1)
 have cY17_x3_0 : Y17.cell? ⟨Y9.heap.size, 0, none⟩ = some (.slice ax3q0 lx3q0 cx3q0) := (World.cell?_of_block (gY17.block _ (blk (((Gr.refl _) : Gr Y16 Y16).keep cY16_x3_0)) (fun h => by have a1 := F_x1.out.2 (Y9.heap.size) h; have a2 := L_x1.out (Y9.heap.size) h; omega))).trans (((Gr.refl _) : Gr Y16 Y16).keep cY16_x3_0)
 have cY17_x3_1 : Y17.cell? ⟨Y9.heap.size, 1, none⟩ = some (.slice ax3q1 lx3q1 cx3q1) := (World.cell?_of_block (gY17.block _ (blk (((Gr.refl _) : Gr Y16 Y16).keep cY16_x3_1)) (fun h => by have a1 := F_x1.out.2 (Y9.heap.size) h; have a2 := L_x1.out (Y9.heap.size) h; omega))).trans (((Gr.refl _) : Gr Y16 Y16).keep cY16_x3_1)
 have zY17_ag := blk cY17_ag_0
 have zY17_at := blk cY17_at_0
 have zY17_ap := blk cY17_ap_0
 have zY17_am := blk cY17_am_0
 have zY17_x0 := blk cY17_x0_0
 have zY17_x1 := blk cY17_x1_0
 have zY17_x2 := blk cY17_x2_0
 have zY17_x3 := blk cY17_x3_0
 have rY17_w0 := Lib.hid (SlR.wr (SlR.gr rY16_w0.out ((Gr.refl _) : Gr Y16 Y16)) gY17 (fun b h1 h2 => by have a1 := F_x1.out.2 _ h2; have a2 := L_x1.out _ h2; have a3 := F_w0.out.2 _ h1; have a4 := L_w0.out _ h1; omega))
 have rY17_x2 := Lib.hid (Rd.wr (Rd.gr rY16_x2.out ((Gr.refl _) : Gr Y16 Y16)) gY17 (fun b h1 h2 => by have a1 := F_x1.out.2 _ h2; have a2 := L_x1.out _ h2; have a3 := F_x2.out.2 _ h1; have a4 := L_x2.out _ h1; omega))
 have rY17_x3 := Lib.hid (Rd.wr (Rd.gr rY16_x3.out ((Gr.refl _) : Gr Y16 Y16)) gY17 (fun b h1 h2 => by have a1 := F_x1.out.2 _ h2; have a2 := L_x1.out _ h2; have a3 := F_x3.out.2 _ h1; have a4 := L_x3.out _ h1; omega))
 have rY17_g0 := Lib.hid (SlR.wr (SlR.gr rY16_g0.out ((Gr.refl _) : Gr Y16 Y16)) gY17 (fun b h1 h2 => by have a1 := F_x1.out.2 _ h2; have a2 := L_x1.out _ h2; have a3 := F_g0.out.2 _ h1; have a4 := L_g0.out _ h1; omega))
 clear cY16_ag_0 cY16_ag_1 cY16_at_0 cY16_ap_0 cY16_ap_1 cY16_am_0 cY16_am_1 cY16_x0_0 cY16_x0_1 cY16_x1_0 cY16_x2_0 cY16_x2_1 cY16_x3_0 cY16_x3_1
 go_wp2_with fail
 refine (markMemo_any fx2 _ p k2 _ rY17_x2.out F_x2.out.1 (by omega) (by have := vMemo_bd k2 p; omega)).mono ?_
 rintro e Y18 ⟨rfl, sY18, gY18⟩
 have bk3 := vMemo_bd k2 p
 obtain ⟨k3, hk3⟩ : ∃ k, k = (vMemo k2 p).2 := ⟨_, rfl⟩
 rw [← hk3] at bk3 ⊢
 clear hk3
 have rY18_m := Lib.hid sY18
 clear sY18
 have ZY18 : Y17.heap.size ≤ Y18.heap.size := Nat.le_trans (Gr.size ((Gr.refl _) : Gr Y17 Y17)) gY18.size
 have GWY18 : Gr w Y18 := Gr.wr GWY17 gY18 (fun b hb => by have a1 := F_x2.out.2 b hb; omega)
 have cY18_ag_0 : Y18.cell? ⟨w.heap.size, 0, none⟩ = some (.slice gaq0 glq0 gcq0) := (World.cell?_of_block (gY18.block _ (blk (((Gr.refl _) : Gr Y17 Y17).keep cY17_ag_0)) (fun h => by have a1 := F_x2.out.2 (w.heap.size) h; have a2 := L_x2.out (w.heap.size) h; omega))).trans (((Gr.refl _) : Gr Y17 Y17).keep cY17_ag_0)
 have cY18_ag_1 : Y18.cell? ⟨w.heap.size, 1, none⟩ = some (.slice gaq1 glq1 gcq1) := (World.cell?_of_block (gY18.block _ (blk (((Gr.refl _) : Gr Y17 Y17).keep cY17_ag_1)) (fun h => by have a1 := F_x2.out.2 (w.heap.size) h; have a2 := L_x2.out (w.heap.size) h; omega))).trans (((Gr.refl _) : Gr Y17 Y17).keep cY17_ag_1)
 have cY18_at_0 : Y18.cell? ⟨w.heap.size + 1, 0, none⟩ = some (.slice taq0 tlq0 tcq0) := (World.cell?_of_block (gY18.block _ (blk (((Gr.refl _) : Gr Y17 Y17).keep cY17_at_0)) (fun h => by have a1 := F_x2.out.2 (w.heap.size + 1) h; have a2 := L_x2.out (w.heap.size + 1) h; omega))).trans (((Gr.refl _) : Gr Y17 Y17).keep cY17_at_0)
 have cY18_ap_0 : Y18.cell? ⟨w.heap.size + 1 + 1, 0, none⟩ = some (.slice paq0 plq0 pcq0) := (World.cell?_of_block (gY18.block _ (blk (((Gr.refl _) : Gr Y17 Y17).keep cY17_ap_0)) (fun h => by have a1 := F_x2.out.2 (w.heap.size + 1 + 1) h; have a2 := L_x2.out (w.heap.size + 1 + 1) h; omega))).trans (((Gr.refl _) : Gr Y17 Y17).keep cY17_ap_0)
 have cY18_ap_1 : Y18.cell? ⟨w.heap.size + 1 + 1, 1, none⟩ = some (.slice paq1 plq1 pcq1) := (World.cell?_of_block (gY18.block _ (blk (((Gr.refl _) : Gr Y17 Y17).keep cY17_ap_1)) (fun h => by have a1 := F_x2.out.2 (w.heap.size + 1 + 1) h; have a2 := L_x2.out (w.heap.size + 1 + 1) h; omega))).trans (((Gr.refl _) : Gr Y17 Y17).keep cY17_ap_1)
 have cY18_am_0 : Y18.cell? ⟨w.heap.size + 1 + 1 + 1, 0, none⟩ = some (.slice maq0 mlq0 mcq0) := (World.cell?_of_block (gY18.block _ (blk (((Gr.refl _) : Gr Y17 Y17).keep cY17_am_0)) (fun h => by have a1 := F_x2.out.2 (w.heap.size + 1 + 1 + 1) h; have a2 := L_x2.out (w.heap.size + 1 + 1 + 1) h; omega))).trans (((Gr.refl _) : Gr Y17 Y17).keep cY17_am_0)
 have cY18_am_1 : Y18.cell? ⟨w.heap.size + 1 + 1 + 1, 1, none⟩ = some (.slice maq1 mlq1 mcq1) := (World.cell?_of_block (gY18.block _ (blk (((Gr.refl _) : Gr Y17 Y17).keep cY17_am_1)) (fun h => by have a1 := F_x2.out.2 (w.heap.size + 1 + 1 + 1) h; have a2 := L_x2.out (w.heap.size + 1 + 1 + 1) h; omega))).trans (((Gr.refl _) : Gr Y17 Y17).keep cY17_am_1)
 have cY18_x0_0 : Y18.cell? ⟨Y6.heap.size, 0, none⟩ = some (.slice ax0q0 lx0q0 cx0q0) := (World.cell?_of_block (gY18.block _ (blk (((Gr.refl _) : Gr Y17 Y17).keep cY17_x0_0)) (fun h => by have a1 := F_x2.out.2 (Y6.heap.size) h; have a2 := L_x2.out (Y6.heap.size) h; omega))).trans (((Gr.refl _) : Gr Y17 Y17).keep cY17_x0_0)
 have cY18_x0_1 : Y18.cell? ⟨Y6.heap.size, 1, none⟩ = some (.slice ax0q1 lx0q1 cx0q1) := (World.cell?_of_block (gY18.block _ (blk (((Gr.refl _) : Gr Y17 Y17).keep cY17_x0_1)) (fun h => by have a1 := F_x2.out.2 (Y6.heap.size) h; have a2 := L_x2.out (Y6.heap.size) h; omega))).trans (((Gr.refl _) : Gr Y17 Y17).keep cY17_x0_1)
 have cY18_x1_0 : Y18.cell? ⟨Y7.heap.size, 0, none⟩ = some (.slice ax1q0 lx1q0 cx1q0) := (World.cell?_of_block (gY18.block _ (blk (((Gr.refl _) : Gr Y17 Y17).keep cY17_x1_0)) (fun h => by have a1 := F_x2.out.2 (Y7.heap.size) h; have a2 := L_x2.out (Y7.heap.size) h; omega))).trans (((Gr.refl _) : Gr Y17 Y17).keep cY17_x1_0)
 have cY18_x2_0 : Y18.cell? ⟨Y8.heap.size, 0, none⟩ = some (.slice ax2q0 lx2q0 cx2q0) := (World.cell?_of_block (gY18.block _ (blk (((Gr.refl _) : Gr Y17 Y17).keep cY17_x2_0)) (fun h => by have a1 := F_x2.out.2 (Y8.heap.size) h; have a2 := L_x2.out (Y8.heap.size) h; omega))).trans (((Gr.refl _) : Gr Y17 Y17).keep cY17_x2_0)
 have cY18_x2_1 : Y18.cell? ⟨Y8.heap.size, 1, none⟩ = some (.slice ax2q1 lx2q1 cx2q1) := (World.cell?_of_block (gY18.block _ (blk (((Gr.refl _) : Gr Y17 Y17).keep cY17_x2_1)) (fun h => by have a1 := F_x2.out.2 (Y8.heap.size) h; have a2 := L_x2.out (Y8.heap.size) h; omega))).trans (((Gr.refl _) : Gr Y17 Y17).keep cY17_x2_1)
 have cY18_x3_0 : Y18.cell? ⟨Y9.heap.size, 0, none⟩ = some (.slice ax3q0 lx3q0 cx3q0) := (World.cell?_of_block (gY18.block _ (blk (((Gr.refl _) : Gr Y17 Y17).keep cY17_x3_0)) (fun h => by have a1 := F_x2.out.2 (Y9.heap.size) h; have a2 := L_x2.out (Y9.heap.size) h; omega))).trans (((Gr.refl _) : Gr Y17 Y17).keep cY17_x3_0)
 have cY18_x3_1 : Y18.cell? ⟨Y9.heap.size, 1, none⟩ = some (.slice ax3q1 lx3q1 cx3q1) := (World.cell?_of_block (gY18.block _ (blk (((Gr.refl _) : Gr Y17 Y17).keep cY17_x3_1)) (fun h => by have a1 := F_x2.out.2 (Y9.heap.size) h; have a2 := L_x2.out (Y9.heap.size) h; omega))).trans (((Gr.refl _) : Gr Y17 Y17).keep cY17_x3_1)
 have zY18_ag := blk cY18_ag_0
 have zY18_at := blk cY18_at_0
 have zY18_ap := blk cY18_ap_0
 have zY18_am := blk cY18_am_0
 have zY18_x0 := blk cY18_x0_0
 have zY18_x1 := blk cY18_x1_0
 have zY18_x2 := blk cY18_x2_0
 have zY18_x3 := blk cY18_x3_0
 have rY18_w0 := Lib.hid (SlR.wr (SlR.gr rY17_w0.out ((Gr.refl _) : Gr Y17 Y17)) gY18 (fun b h1 h2 => by have a1 := F_x2.out.2 _ h2; have a2 := L_x2.out _ h2; have a3 := F_w0.out.2 _ h1; have a4 := L_w0.out _ h1; omega))
 have rY18_x3 := Lib.hid (Rd.wr (Rd.gr rY17_x3.out ((Gr.refl _) : Gr Y17 Y17)) gY18 (fun b h1 h2 => by have a1 := F_x2.out.2 _ h2; have a2 := L_x2.out _ h2; have a3 := F_x3.out.2 _ h1; have a4 := L_x3.out _ h1; omega))
 have rY18_g0 := Lib.hid (SlR.wr (SlR.gr rY17_g0.out ((Gr.refl _) : Gr Y17 Y17)) gY18 (fun b h1 h2 => by have a1 := F_x2.out.2 _ h2; have a2 := L_x2.out _ h2; have a3 := F_g0.out.2 _ h1; have a4 := L_g0.out _ h1; omega))
 clear cY17_ag_0 cY17_ag_1 cY17_at_0 cY17_ap_0 cY17_ap_1 cY17_am_0 cY17_am_1 cY17_x0_0 cY17_x0_1 cY17_x1_0 cY17_x2_0 cY17_x2_1 cY17_x3_0 cY17_x3_1
 go_wp2_with fail
 refine (markMemo_any fx3 _ m k3 _ rY18_x3.out F_x3.out.1 (by omega) (by have := vMemo_bd k3 m; omega)).mono ?_
 rintro e Y19 ⟨rfl, sY19, gY19⟩
 have bk4 := vMemo_bd k3 m
 obtain ⟨k4, hk4⟩ : ∃ k, k = (vMemo k3 m).2 := ⟨_, rfl⟩
 rw [← hk4] at bk4 ⊢
 clear hk4
 have rY19_m := Lib.hid sY19
 clear sY19
 have ZY19 : Y18.heap.size ≤ Y19.heap.size := Nat.le_trans (Gr.size ((Gr.refl _) : Gr Y18 Y18)) gY19.size
 have GWY19 : Gr w Y19 := Gr.wr GWY18 gY19 (fun b hb => by have a1 := F_x3.out.2 b hb; omega)
 have cY19_ag_0 : Y19.cell? ⟨w.heap.size, 0, none⟩ = some (.slice gaq0 glq0 gcq0) := (World.cell?_of_block (gY19.block _ (blk (((Gr.refl _) : Gr Y18 Y18).keep cY18_ag_0)) (fun h => by have a1 := F_x3.out.2 (w.heap.size) h; have a2 := L_x3.out (w.heap.size) h; omega))).trans (((Gr.refl _) : Gr Y18 Y18).keep cY18_ag_0)
 have cY19_ag_1 : Y19.cell? ⟨w.heap.size, 1, none⟩ = some (.slice gaq1 glq1 gcq1) := (World.cell?_of_block (gY19.block _ (blk (((Gr.refl _) : Gr Y18 Y18).keep cY18_ag_1)) (fun h => by have a1 := F_x3.out.2 (w.heap.size) h; have a2 := L_x3.out (w.heap.size) h; omega))).trans (((Gr.refl _) : Gr Y18 Y18).keep cY18_ag_1)
 have cY19_at_0 : Y19.cell? ⟨w.heap.size + 1, 0, none⟩ = some (.slice taq0 tlq0 tcq0) := (World.cell?_of_block (gY19.block _ (blk (((Gr.refl _) : Gr Y18 Y18).keep cY18_at_0)) (fun h => by have a1 := F_x3.out.2 (w.heap.size + 1) h; have a2 := L_x3.out (w.heap.size + 1) h; omega))).trans (((Gr.refl _) : Gr Y18 Y18).keep cY18_at_0)
 have cY19_ap_0 : Y19.cell? ⟨w.heap.size + 1 + 1, 0, none⟩ = some (.slice paq0 plq0 pcq0) := (World.cell?_of_block (gY19.block _ (blk (((Gr.refl _) : Gr Y18 Y18).keep cY18_ap_0)) (fun h => by have a1 := F_x3.out.2 (w.heap.size + 1 + 1) h; have a2 := L_x3.out (w.heap.size + 1 + 1) h; omega))).trans (((Gr.refl _) : Gr Y18 Y18).keep cY18_ap_0)
 have cY19_ap_1 : Y19.cell? ⟨w.heap.size + 1 + 1, 1, none⟩ = some (.slice paq1 plq1 pcq1) := (World.cell?_of_block (gY19.block _ (blk (((Gr.refl _) : Gr Y18 Y18).keep cY18_ap_1)) (fun h => by have a1 := F_x3.out.2 (w.heap.size + 1 + 1) h; have a2 := L_x3.out (w.heap.size + 1 + 1) h; omega))).trans (((Gr.refl _) : Gr Y18 Y18).keep cY18_ap_1)
 have cY19_am_0 : Y19.cell? ⟨w.heap.size + 1 + 1 + 1, 0, none⟩ = some (.slice maq0 mlq0 mcq0) := (World.cell?_of_block (gY19.block _ (blk (((Gr.refl _) : Gr Y18 Y18).keep cY18_am_0)) (fun h => by have a1 := F_x3.out.2 (w.heap.size + 1 + 1 + 1) h; have a2 := L_x3.out (w.heap.size + 1 + 1 + 1) h; omega))).trans (((Gr.refl _) : Gr Y18 Y18).keep cY18_am_0)
 have cY19_am_1 : Y19.cell? ⟨w.heap.size + 1 + 1 + 1, 1, none⟩ = some (.slice maq1 mlq1 mcq1) := (World.cell?_of_block (gY19.block _ (blk (((Gr.refl _) : Gr Y18 Y18).keep cY18_am_1)) (fun h => by have a1 := F_x3.out.2 (w.heap.size + 1 + 1 + 1) h; have a2 := L_x3.out (w.heap.size + 1 + 1 + 1) h; omega))).trans (((Gr.refl _) : Gr Y18 Y18).keep cY18_am_1)
 have cY19_x0_0 : Y19.cell? ⟨Y6.heap.size, 0, none⟩ = some (.slice ax0q0 lx0q0 cx0q0) := (World.cell?_of_block (gY19.block _ (blk (((Gr.refl _) : Gr Y18 Y18).keep cY18_x0_0)) (fun h => by have a1 := F_x3.out.2 (Y6.heap.size) h; have a2 := L_x3.out (Y6.heap.size) h; omega))).trans (((Gr.refl _) : Gr Y18 Y18).keep cY18_x0_0)
 have cY19_x0_1 : Y19.cell? ⟨Y6.heap.size, 1, none⟩ = some (.slice ax0q1 lx0q1 cx0q1) := (World.cell?_of_block (gY19.block _ (blk (((Gr.refl _) : Gr Y18 Y18).keep cY18_x0_1)) (fun h => by have a1 := F_x3.out.2 (Y6.heap.size) h; have a2 := L_x3.out (Y6.heap.size) h; omega))).trans (((Gr.refl _) : Gr Y18 Y18).keep cY18_x0_1)
 have cY19_x1_0 : Y19.cell? ⟨Y7.heap.size, 0, none⟩ = some (.slice ax1q0 lx1q0 cx1q0) := (World.cell?_of_block (gY19.block _ (blk (((Gr.refl _) : Gr Y18 Y18).keep cY18_x1_0)) (fun h => by have a1 := F_x3.out.2 (Y7.heap.size) h; have a2 := L_x3.out (Y7.heap.size) h; omega))).trans (((Gr.refl _) : Gr Y18 Y18).keep cY18_x1_0)
 have cY19_x2_0 : Y19.cell? ⟨Y8.heap.size, 0, none⟩ = some (.slice ax2q0 lx2q0 cx2q0) := (World.cell?_of_block (gY19.block _ (blk (((Gr.refl _) : Gr Y18 Y18).keep cY18_x2_0)) (fun h => by have a1 := F_x3.out.2 (Y8.heap.size) h; have a2 := L_x3.out (Y8.heap.size) h; omega))).trans (((Gr.refl _) : Gr Y18 Y18).keep cY18_x2_0)
 have cY19_x2_1 : Y19.cell? ⟨Y8.heap.size, 1, none⟩ = some (.slice ax2q1 lx2q1 cx2q1) := (World.cell?_of_block (gY19.block _ (blk (((Gr.refl _) : Gr Y18 Y18).keep cY18_x2_1)) (fun h => by have a1 := F_x3.out.2 (Y8.heap.size) h; have a2 := L_x3.out (Y8.heap.size) h; omega))).trans (((Gr.refl _) : Gr Y18 Y18).keep cY18_x2_1)
 have cY19_x3_0 : Y19.cell? ⟨Y9.heap.size, 0, none⟩ = some (.slice ax3q0 lx3q0 cx3q0) := (World.cell?_of_block (gY19.block _ (blk (((Gr.refl _) : Gr Y18 Y18).keep cY18_x3_0)) (fun h => by have a1 := F_x3.out.2 (Y9.heap.size) h; have a2 := L_x3.out (Y9.heap.size) h; omega))).trans (((Gr.refl _) : Gr Y18 Y18).keep cY18_x3_0)
 have cY19_x3_1 : Y19.cell? ⟨Y9.heap.size, 1, none⟩ = some (.slice ax3q1 lx3q1 cx3q1) := (World.cell?_of_block (gY19.block _ (blk (((Gr.refl _) : Gr Y18 Y18).keep cY18_x3_1)) (fun h => by have a1 := F_x3.out.2 (Y9.heap.size) h; have a2 := L_x3.out (Y9.heap.size) h; omega))).trans (((Gr.refl _) : Gr Y18 Y18).keep cY18_x3_1)
 have zY19_ag := blk cY19_ag_0
 have zY19_at := blk cY19_at_0
 have zY19_ap := blk cY19_ap_0
 have zY19_am := blk cY19_am_0
 have zY19_x0 := blk cY19_x0_0
 have zY19_x1 := blk cY19_x1_0
 have zY19_x2 := blk cY19_x2_0
 have zY19_x3 := blk cY19_x3_0
 have rY19_w0 := Lib.hid (SlR.wr (SlR.gr rY18_w0.out ((Gr.refl _) : Gr Y18 Y18)) gY19 (fun b h1 h2 => by have a1 := F_x3.out.2 _ h2; have a2 := L_x3.out _ h2; have a3 := F_w0.out.2 _ h1; have a4 := L_w0.out _ h1; omega))
 have rY19_g0 := Lib.hid (SlR.wr (SlR.gr rY18_g0.out ((Gr.refl _) : Gr Y18 Y18)) gY19 (fun b h1 h2 => by have a1 := F_x3.out.2 _ h2; have a2 := L_x3.out _ h2; have a3 := F_g0.out.2 _ h1; have a4 := L_g0.out _ h1; omega))
 clear cY18_ag_0 cY18_ag_1 cY18_at_0 cY18_ap_0 cY18_ap_1 cY18_am_0 cY18_am_1 cY18_x0_0 cY18_x0_1 cY18_x1_0 cY18_x2_0 cY18_x2_1 cY18_x3_0 cY18_x3_1
 go_wp2_with fail
 refine (eqInstanceS_any fg0 fw0 _ _ yv yv _ rY19_g0.out rY19_w0.out).mono ?_
 rintro e Y20 ⟨rfl, gY20⟩
 rw [decide_eq_true rfl]
 have GY20 : Gr Y19 Y20 := ((Gr.refl _) : Gr Y19 Y19).trans gY20
 have GWY20 : Gr w Y20 := GWY19.trans GY20
 have ZY20 : Y19.heap.size ≤ Y20.heap.size := GY20.size
 have cY20_ag_0 : Y20.cell? ⟨w.heap.size, 0, none⟩ = some (.slice gaq0 glq0 gcq0) := GY20.keep cY19_ag_0
 have cY20_ag_1 : Y20.cell? ⟨w.heap.size, 1, none⟩ = some (.slice gaq1 glq1 gcq1) := GY20.keep cY19_ag_1
 have cY20_at_0 : Y20.cell? ⟨w.heap.size + 1, 0, none⟩ = some (.slice taq0 tlq0 tcq0) := GY20.keep cY19_at_0
 have cY20_ap_0 : Y20.cell? ⟨w.heap.size + 1 + 1, 0, none⟩ = some (.slice paq0 plq0 pcq0) := GY20.keep cY19_ap_0
 have cY20_ap_1 : Y20.cell? ⟨w.heap.size + 1 + 1, 1, none⟩ = some (.slice paq1 plq1 pcq1) := GY20.keep cY19_ap_1
 have cY20_am_0 : Y20.cell? ⟨w.heap.size + 1 + 1 + 1, 0, none⟩ = some (.slice maq0 mlq0 mcq0) := GY20.keep cY19_am_0
 have cY20_am_1 : Y20.cell? ⟨w.heap.size + 1 + 1 + 1, 1, none⟩ = some (.slice maq1 mlq1 mcq1) := GY20.keep cY19_am_1
 have cY20_x0_0 : Y20.cell? ⟨Y6.heap.size, 0, none⟩ = some (.slice ax0q0 lx0q0 cx0q0) := GY20.keep cY19_x0_0
 have cY20_x0_1 : Y20.cell? ⟨Y6.heap.size, 1, none⟩ = some (.slice ax0q1 lx0q1 cx0q1) := GY20.keep cY19_x0_1
 have cY20_x1_0 : Y20.cell? ⟨Y7.heap.size, 0, none⟩ = some (.slice ax1q0 lx1q0 cx1q0) := GY20.keep cY19_x1_0
 have cY20_x2_0 : Y20.cell? ⟨Y8.heap.size, 0, none⟩ = some (.slice ax2q0 lx2q0 cx2q0) := GY20.keep cY19_x2_0
 have cY20_x2_1 : Y20.cell? ⟨Y8.heap.size, 1, none⟩ = some (.slice ax2q1 lx2q1 cx2q1) := GY20.keep cY19_x2_1
 have cY20_x3_0 : Y20.cell? ⟨Y9.heap.size, 0, none⟩ = some (.slice ax3q0 lx3q0 cx3q0) := GY20.keep cY19_x3_0
 have cY20_x3_1 : Y20.cell? ⟨Y9.heap.size, 1, none⟩ = some (.slice ax3q1 lx3q1 cx3q1) := GY20.keep cY19_x3_1
 have zY20_ag := blk cY20_ag_0
 have zY20_at := blk cY20_at_0
 have zY20_ap := blk cY20_ap_0
 have zY20_am := blk cY20_am_0
 have zY20_x0 := blk cY20_x0_0
 have zY20_x1 := blk cY20_x1_0
 have zY20_x2 := blk cY20_x2_0
 have zY20_x3 := blk cY20_x3_0
 have rY20_w0 := Lib.hid (SlR.gr rY19_w0.out GY20)
 have rY20_g0 := Lib.hid (SlR.gr rY19_g0.out GY20)
 clear cY19_ag_0 cY19_ag_1 cY19_at_0 cY19_ap_0 cY19_ap_1 cY19_am_0 cY19_am_1 cY19_x0_0 cY19_x0_1 cY19_x1_0 cY19_x2_0 cY19_x2_1 cY19_x3_0 cY19_x3_1
 go_wp2_with fail
 have mb := mInstanceS_bd 1 yv
 have mb0 : ¬ (mInstanceS 1 yv).2 < 0 := by omega
 have MB1 := Lib.hid (show (mInstanceS 1 yv).2 ≤ 4398046511104 by omega)
 clear mb
 refine (markInstanceS_any fg0 _ yv 1 _ rY20_g0.out F_g0.out.1 (by omega) MB1.out).mono ?_
 rintro e Y21 ⟨rfl, sY21, gY21⟩
 have rY21_g := Lib.hid sY21
 clear sY21
 have ZY21 : Y20.heap.size ≤ Y21.heap.size := Nat.le_trans (Gr.size ((Gr.refl _) : Gr Y20 Y20)) gY21.size
 have GWY21 : Gr w Y21 := Gr.wr GWY20 gY21 (fun b hb => by have a1 := F_g0.out.2 b hb; omega)
 have cY21_ag_0 : Y21.cell? ⟨w.heap.size, 0, none⟩ = some (.slice gaq0 glq0 gcq0) := (World.cell?_of_block (gY21.block _ (blk (((Gr.refl _) : Gr Y20 Y20).keep cY20_ag_0)) (fun h => by have a1 := F_g0.out.2 (w.heap.size) h; have a2 := L_g0.out (w.heap.size) h; omega))).trans (((Gr.refl _) : Gr Y20 Y20).keep cY20_ag_0)
 have cY21_ag_1 : Y21.cell? ⟨w.heap.size, 1, none⟩ = some (.slice gaq1 glq1 gcq1) := (World.cell?_of_block (gY21.block _ (blk (((Gr.refl _) : Gr Y20 Y20).keep cY20_ag_1)) (fun h => by have a1 := F_g0.out.2 (w.heap.size) h; have a2 := L_g0.out (w.heap.size) h; omega))).trans (((Gr.refl _) : Gr Y20 Y20).keep cY20_ag_1)
 have cY21_at_0 : Y21.cell? ⟨w.heap.size + 1, 0, none⟩ = some (.slice taq0 tlq0 tcq0) := (World.cell?_of_block (gY21.block _ (blk (((Gr.refl _) : Gr Y20 Y20).keep cY20_at_0)) (fun h => by have a1 := F_g0.out.2 (w.heap.size + 1) h; have a2 := L_g0.out (w.heap.size + 1) h; omega))).trans (((Gr.refl _) : Gr Y20 Y20).keep cY20_at_0)
 have cY21_ap_0 : Y21.cell? ⟨w.heap.size + 1 + 1, 0, none⟩ = some (.slice paq0 plq0 pcq0) := (World.cell?_of_block (gY21.block _ (blk (((Gr.refl _) : Gr Y20 Y20).keep cY20_ap_0)) (fun h => by have a1 := F_g0.out.2 (w.heap.size + 1 + 1) h; have a2 := L_g0.out (w.heap.size + 1 + 1) h; omega))).trans (((Gr.refl _) : Gr Y20 Y20).keep cY20_ap_0)
 have cY21_ap_1 : Y21.cell? ⟨w.heap.size + 1 + 1, 1, none⟩ = some (.slice paq1 plq1 pcq1) := (World.cell?_of_block (gY21.block _ (blk (((Gr.refl _) : Gr Y20 Y20).keep cY20_ap_1)) (fun h => by have a1 := F_g0.out.2 (w.heap.size + 1 + 1) h; have a2 := L_g0.out (w.heap.size + 1 + 1) h; omega))).trans (((Gr.refl _) : Gr Y20 Y20).keep cY20_ap_1)
 have cY21_am_0 : Y21.cell? ⟨w.heap.size + 1 + 1 + 1, 0, none⟩ = some (.slice maq0 mlq0 mcq0) := (World.cell?_of_block (gY21.block _ (blk (((Gr.refl _) : Gr Y20 Y20).keep cY20_am_0)) (fun h => by have a1 := F_g0.out.2 (w.heap.size + 1 + 1 + 1) h; have a2 := L_g0.out (w.heap.size + 1 + 1 + 1) h; omega))).trans (((Gr.refl _) : Gr Y20 Y20).keep cY20_am_0)
 have cY21_am_1 : Y21.cell? ⟨w.heap.size + 1 + 1 + 1, 1, none⟩ = some (.slice maq1 mlq1 mcq1) := (World.cell?_of_block (gY21.block _ (blk (((Gr.refl _) : Gr Y20 Y20).keep cY20_am_1)) (fun h => by have a1 := F_g0.out.2 (w.heap.size + 1 + 1 + 1) h; have a2 := L_g0.out (w.heap.size + 1 + 1 + 1) h; omega))).trans (((Gr.refl _) : Gr Y20 Y20).keep cY20_am_1)
 have cY21_x0_0 : Y21.cell? ⟨Y6.heap.size, 0, none⟩ = some (.slice ax0q0 lx0q0 cx0q0) := (World.cell?_of_block (gY21.block _ (blk (((Gr.refl _) : Gr Y20 Y20).keep cY20_x0_0)) (fun h => by have a1 := F_g0.out.2 (Y6.heap.size) h; have a2 := L_g0.out (Y6.heap.size) h; omega))).trans (((Gr.refl _) : Gr Y20 Y20).keep cY20_x0_0)
 have cY21_x0_1 : Y21.cell? ⟨Y6.heap.size, 1, none⟩ = some (.slice ax0q1 lx0q1 cx0q1) := (World.cell?_of_block (gY21.block _ (blk (((Gr.refl _) : Gr Y20 Y20).keep cY20_x0_1)) (fun h => by have a1 := F_g0.out.2 (Y6.heap.size) h; have a2 := L_g0.out (Y6.heap.size) h; omega))).trans (((Gr.refl _) : Gr Y20 Y20).keep cY20_x0_1)
 have cY21_x1_0 : Y21.cell? ⟨Y7.heap.size, 0, none⟩ = some (.slice ax1q0 lx1q0 cx1q0) := (World.cell?_of_block (gY21.block _ (blk (((Gr.refl _) : Gr Y20 Y20).keep cY20_x1_0)) (fun h => by have a1 := F_g0.out.2 (Y7.heap.size) h; have a2 := L_g0.out (Y7.heap.size) h; omega))).trans (((Gr.refl _) : Gr Y20 Y20).keep cY20_x1_0)
 have cY21_x2_0 : Y21.cell? ⟨Y8.heap.size, 0, none⟩ = some (.slice ax2q0 lx2q0 cx2q0) := (World.cell?_of_block (gY21.block _ (blk (((Gr.refl _) : Gr Y20 Y20).keep cY20_x2_0)) (fun h => by have a1 := F_g0.out.2 (Y8.heap.size) h; have a2 := L_g0.out (Y8.heap.size) h; omega))).trans (((Gr.refl _) : Gr Y20 Y20).keep cY20_x2_0)
 have cY21_x2_1 : Y21.cell? ⟨Y8.heap.size, 1, none⟩ = some (.slice ax2q1 lx2q1 cx2q1) := (World.cell?_of_block (gY21.block _ (blk (((Gr.refl _) : Gr Y20 Y20).keep cY20_x2_1)) (fun h => by have a1 := F_g0.out.2 (Y8.heap.size) h; have a2 := L_g0.out (Y8.heap.size) h; omega))).trans (((Gr.refl _) : Gr Y20 Y20).keep cY20_x2_1)
 have cY21_x3_0 : Y21.cell? ⟨Y9.heap.size, 0, none⟩ = some (.slice ax3q0 lx3q0 cx3q0) := (World.cell?_of_block (gY21.block _ (blk (((Gr.refl _) : Gr Y20 Y20).keep cY20_x3_0)) (fun h => by have a1 := F_g0.out.2 (Y9.heap.size) h; have a2 := L_g0.out (Y9.heap.size) h; omega))).trans (((Gr.refl _) : Gr Y20 Y20).keep cY20_x3_0)
 have cY21_x3_1 : Y21.cell? ⟨Y9.heap.size, 1, none⟩ = some (.slice ax3q1 lx3q1 cx3q1) := (World.cell?_of_block (gY21.block _ (blk (((Gr.refl _) : Gr Y20 Y20).keep cY20_x3_1)) (fun h => by have a1 := F_g0.out.2 (Y9.heap.size) h; have a2 := L_g0.out (Y9.heap.size) h; omega))).trans (((Gr.refl _) : Gr Y20 Y20).keep cY20_x3_1)
 have zY21_ag := blk cY21_ag_0
 have zY21_at := blk cY21_at_0
 have zY21_ap := blk cY21_ap_0
 have zY21_am := blk cY21_am_0
 have zY21_x0 := blk cY21_x0_0
 have zY21_x1 := blk cY21_x1_0
 have zY21_x2 := blk cY21_x2_0
 have zY21_x3 := blk cY21_x3_0
 have rY21_w0 := Lib.hid (SlR.wr (SlR.gr rY20_w0.out ((Gr.refl _) : Gr Y20 Y20)) gY21 (fun b h1 h2 => by have a1 := F_g0.out.2 _ h2; have a2 := L_g0.out _ h2; have a3 := F_w0.out.2 _ h1; have a4 := L_w0.out _ h1; omega))
 clear cY20_ag_0 cY20_ag_1 cY20_at_0 cY20_ap_0 cY20_ap_1 cY20_am_0 cY20_am_1 cY20_x0_0 cY20_x0_1 cY20_x1_0 cY20_x2_0 cY20_x2_1 cY20_x3_0 cY20_x3_1
 go_wp2_with fail
 refine (heldInstanceS_any fg0 _ yv 1 _ rY21_g.out (by omega) MB1.out).mono ?_
 rintro e Y22 ⟨rfl, gY22⟩
 have GY22 : Gr Y21 Y22 := ((Gr.refl _) : Gr Y21 Y21).trans gY22
 have GWY22 : Gr w Y22 := GWY21.trans GY22
 have ZY22 : Y21.heap.size ≤ Y22.heap.size := GY22.size
 have cY22_ag_0 : Y22.cell? ⟨w.heap.size, 0, none⟩ = some (.slice gaq0 glq0 gcq0) := GY22.keep cY21_ag_0
 have cY22_ag_1 : Y22.cell? ⟨w.heap.size, 1, none⟩ = some (.slice gaq1 glq1 gcq1) := GY22.keep cY21_ag_1
 have cY22_at_0 : Y22.cell? ⟨w.heap.size + 1, 0, none⟩ = some (.slice taq0 tlq0 tcq0) := GY22.keep cY21_at_0
 have cY22_ap_0 : Y22.cell? ⟨w.heap.size + 1 + 1, 0, none⟩ = some (.slice paq0 plq0 pcq0) := GY22.keep cY21_ap_0
 have cY22_ap_1 : Y22.cell? ⟨w.heap.size + 1 + 1, 1, none⟩ = some (.slice paq1 plq1 pcq1) := GY22.keep cY21_ap_1
 have cY22_am_0 : Y22.cell? ⟨w.heap.size + 1 + 1 + 1, 0, none⟩ = some (.slice maq0 mlq0 mcq0) := GY22.keep cY21_am_0
 have cY22_am_1 : Y22.cell? ⟨w.heap.size + 1 + 1 + 1, 1, none⟩ = some (.slice maq1 mlq1 mcq1) := GY22.keep cY21_am_1
 have cY22_x0_0 : Y22.cell? ⟨Y6.heap.size, 0, none⟩ = some (.slice ax0q0 lx0q0 cx0q0) := GY22.keep cY21_x0_0
 have cY22_x0_1 : Y22.cell? ⟨Y6.heap.size, 1, none⟩ = some (.slice ax0q1 lx0q1 cx0q1) := GY22.keep cY21_x0_1
 have cY22_x1_0 : Y22.cell? ⟨Y7.heap.size, 0, none⟩ = some (.slice ax1q0 lx1q0 cx1q0) := GY22.keep cY21_x1_0
 have cY22_x2_0 : Y22.cell? ⟨Y8.heap.size, 0, none⟩ = some (.slice ax2q0 lx2q0 cx2q0) := GY22.keep cY21_x2_0
 have cY22_x2_1 : Y22.cell? ⟨Y8.heap.size, 1, none⟩ = some (.slice ax2q1 lx2q1 cx2q1) := GY22.keep cY21_x2_1
 have cY22_x3_0 : Y22.cell? ⟨Y9.heap.size, 0, none⟩ = some (.slice ax3q0 lx3q0 cx3q0) := GY22.keep cY21_x3_0
 have cY22_x3_1 : Y22.cell? ⟨Y9.heap.size, 1, none⟩ = some (.slice ax3q1 lx3q1 cx3q1) := GY22.keep cY21_x3_1
 have zY22_ag := blk cY22_ag_0
 have zY22_at := blk cY22_at_0
 have zY22_ap := blk cY22_ap_0
 have zY22_am := blk cY22_am_0
 have zY22_x0 := blk cY22_x0_0
 have zY22_x1 := blk cY22_x1_0
 have zY22_x2 := blk cY22_x2_0
 have zY22_x3 := blk cY22_x3_0
 have rY22_w0 := Lib.hid (SlR.gr rY21_w0.out GY22)
 have rY22_g0 := Lib.hid (SlR.gr rY21_g.out GY22)
 clear cY21_ag_0 cY21_ag_1 cY21_at_0 cY21_ap_0 cY21_ap_1 cY21_am_0 cY21_am_1 cY21_x0_0 cY21_x0_1 cY21_x1_0 cY21_x2_0 cY21_x2_1 cY21_x3_0 cY21_x3_1
 go_wp2_with fail
 have kcY22_ag_0 : ∀ w' : World, Gr Y22 w' → w'.cell? ⟨w.heap.size, 0, none⟩ = some (.slice gaq0 glq0 gcq0) := fun w' h => h.keep cY22_ag_0
 have kcY22_ag_1 : ∀ w' : World, Gr Y22 w' → w'.cell? ⟨w.heap.size, 1, none⟩ = some (.slice gaq1 glq1 gcq1) := fun w' h => h.keep cY22_ag_1
 have kcY22_at_0 : ∀ w' : World, Gr Y22 w' → w'.cell? ⟨w.heap.size + 1, 0, none⟩ = some (.slice taq0 tlq0 tcq0) := fun w' h => h.keep cY22_at_0
 have kcY22_ap_0 : ∀ w' : World, Gr Y22 w' → w'.cell? ⟨w.heap.size + 1 + 1, 0, none⟩ = some (.slice paq0 plq0 pcq0) := fun w' h => h.keep cY22_ap_0
 have kcY22_ap_1 : ∀ w' : World, Gr Y22 w' → w'.cell? ⟨w.heap.size + 1 + 1, 1, none⟩ = some (.slice paq1 plq1 pcq1) := fun w' h => h.keep cY22_ap_1
 have kcY22_am_0 : ∀ w' : World, Gr Y22 w' → w'.cell? ⟨w.heap.size + 1 + 1 + 1, 0, none⟩ = some (.slice maq0 mlq0 mcq0) := fun w' h => h.keep cY22_am_0
 have kcY22_am_1 : ∀ w' : World, Gr Y22 w' → w'.cell? ⟨w.heap.size + 1 + 1 + 1, 1, none⟩ = some (.slice maq1 mlq1 mcq1) := fun w' h => h.keep cY22_am_1
 have kcY22_x0_0 : ∀ w' : World, Gr Y22 w' → w'.cell? ⟨Y6.heap.size, 0, none⟩ = some (.slice ax0q0 lx0q0 cx0q0) := fun w' h => h.keep cY22_x0_0
 have kcY22_x0_1 : ∀ w' : World, Gr Y22 w' → w'.cell? ⟨Y6.heap.size, 1, none⟩ = some (.slice ax0q1 lx0q1 cx0q1) := fun w' h => h.keep cY22_x0_1
 have kcY22_x1_0 : ∀ w' : World, Gr Y22 w' → w'.cell? ⟨Y7.heap.size, 0, none⟩ = some (.slice ax1q0 lx1q0 cx1q0) := fun w' h => h.keep cY22_x1_0
 have kcY22_x2_0 : ∀ w' : World, Gr Y22 w' → w'.cell? ⟨Y8.heap.size, 0, none⟩ = some (.slice ax2q0 lx2q0 cx2q0) := fun w' h => h.keep cY22_x2_0
 have kcY22_x2_1 : ∀ w' : World, Gr Y22 w' → w'.cell? ⟨Y8.heap.size, 1, none⟩ = some (.slice ax2q1 lx2q1 cx2q1) := fun w' h => h.keep cY22_x2_1
 have kcY22_x3_0 : ∀ w' : World, Gr Y22 w' → w'.cell? ⟨Y9.heap.size, 0, none⟩ = some (.slice ax3q0 lx3q0 cx3q0) := fun w' h => h.keep cY22_x3_0
 have kcY22_x3_1 : ∀ w' : World, Gr Y22 w' → w'.cell? ⟨Y9.heap.size, 1, none⟩ = some (.slice ax3q1 lx3q1 cx3q1) := fun w' h => h.keep cY22_x3_1
 go_region_held3 (fun w' => Gr Y22 w') (first | assumption | exact Gr.drew (Gr.refl _) | exact Gr.ext (by assumption) _)
   (first
     | (go_at_call_of 10 gaq0; refine (toGrammar_any _ _ g _ (Rd.gr HG.out (GWY22.trans (by assumption))) wtg).mono ?_; rintro e w' ⟨ds0, ff0, rfl, ss0, fr0, ex0, rfl⟩)
     | (go_at_call_of 11 taq0; refine (toTree_any _ _ t _ (Rd.gr HT.out (GWY22.trans (by assumption))) wtt).mono ?_; rintro e w' ⟨ds1, ff1, rfl, ss1, fr1, ex1, rfl⟩)
     | (go_at_call_of 23 paq0; refine (toMemo_any _ _ p _ (Rd.gr HP.out (GWY22.trans (by assumption))) wtp).mono ?_; rintro e w' ⟨ds2, ff2, rfl, ss2, fr2, ex2, rfl⟩)
     | (go_at_call_of 23 maq0; refine (toMemo_any _ _ m _ (Rd.gr HM.out (GWY22.trans (by assumption))) wtm).mono ?_; rintro e w' ⟨ds3, ff3, rfl, ss3, fr3, ex3, rfl⟩)
     | (go_at_call 27; refine (implUnj_any g t p m _ (Rd.gr ss0 (by repeat (first | exact Gr.refl _ | apply Gr.ext | apply Gr.alloc | apply Gr.drew))) (Rd.gr ss1 (by repeat (first | exact Gr.refl _ | apply Gr.ext | apply Gr.alloc | apply Gr.drew))) (Rd.gr ss2 (by repeat (first | exact Gr.refl _ | apply Gr.ext | apply Gr.alloc | apply Gr.drew))) (Rd.gr ss3 (by repeat (first | exact Gr.refl _ | apply Gr.ext | apply Gr.alloc | apply Gr.drew))) wtg wtt wtm).mono ?_; rintro e w' ⟨vh0, fh0, rfl, sh0, hfh0, exz, rfl⟩; rw [← HYV.out] at sh0; clear ss0 fr0 ss1 fr1 ss2 fr2 ss3 fr3))
 have hY23 : Gr Y22 (((((Y22.drew.ext ex0).ext ex1).ext ex2).ext ex3).ext exz) := by assumption
 have frh0 : Fresh Y22 fh0 := hfh0.of_le (Gr.size (by repeat (first | exact Gr.refl _ | apply Gr.ext | apply Gr.alloc | apply Gr.drew)))
 clear hfh0
 generalize (((((Y22.drew.ext ex0).ext ex1).ext ex2).ext ex3).ext exz) = Y23 at hY23 sh0 ⊢
 clear kcY22_ag_0 kcY22_ag_1 kcY22_at_0 kcY22_ap_0 kcY22_ap_1 kcY22_am_0 kcY22_am_1 kcY22_x0_0 kcY22_x0_1 kcY22_x1_0 kcY22_x2_0 kcY22_x2_1 kcY22_x3_0 kcY22_x3_1
 obtain ⟨ah0, ch0, rfl, -, -, -⟩ := sh0.open
 have F_h0 : Hid (fh0.Nodup ∧ ∀ b ∈ fh0, Y22.heap.size + 0 ≤ b) := Lib.hid ⟨frh0.1, fun b hb => by have h := frh0.2 b hb; (try simp at h); omega⟩
 have L_h0 := Lib.hid (SlR.lt sh0)
 have ZW0h0 : w.heap.size ≤ Y22.heap.size := Gr.size GWY22
 have rY23_h0 := Lib.hid sh0
 clear sh0 frh0
 have GY23 : Gr Y22 Y23 := ((Gr.refl _) : Gr Y22 Y22).trans hY23
 have GWY23 : Gr w Y23 := GWY22.trans GY23
 have ZY23 : Y22.heap.size ≤ Y23.heap.size := GY23.size
 have cY23_ag_0 : Y23.cell? ⟨w.heap.size, 0, none⟩ = some (.slice gaq0 glq0 gcq0) := GY23.keep cY22_ag_0
 have cY23_ag_1 : Y23.cell? ⟨w.heap.size, 1, none⟩ = some (.slice gaq1 glq1 gcq1) := GY23.keep cY22_ag_1
 have cY23_at_0 : Y23.cell? ⟨w.heap.size + 1, 0, none⟩ = some (.slice taq0 tlq0 tcq0) := GY23.keep cY22_at_0
 have cY23_ap_0 : Y23.cell? ⟨w.heap.size + 1 + 1, 0, none⟩ = some (.slice paq0 plq0 pcq0) := GY23.keep cY22_ap_0
 have cY23_ap_1 : Y23.cell? ⟨w.heap.size + 1 + 1, 1, none⟩ = some (.slice paq1 plq1 pcq1) := GY23.keep cY22_ap_1
 have cY23_am_0 : Y23.cell? ⟨w.heap.size + 1 + 1 + 1, 0, none⟩ = some (.slice maq0 mlq0 mcq0) := GY23.keep cY22_am_0
 have cY23_am_1 : Y23.cell? ⟨w.heap.size + 1 + 1 + 1, 1, none⟩ = some (.slice maq1 mlq1 mcq1) := GY23.keep cY22_am_1
 have cY23_x0_0 : Y23.cell? ⟨Y6.heap.size, 0, none⟩ = some (.slice ax0q0 lx0q0 cx0q0) := GY23.keep cY22_x0_0
 have cY23_x0_1 : Y23.cell? ⟨Y6.heap.size, 1, none⟩ = some (.slice ax0q1 lx0q1 cx0q1) := GY23.keep cY22_x0_1
 have cY23_x1_0 : Y23.cell? ⟨Y7.heap.size, 0, none⟩ = some (.slice ax1q0 lx1q0 cx1q0) := GY23.keep cY22_x1_0
 have cY23_x2_0 : Y23.cell? ⟨Y8.heap.size, 0, none⟩ = some (.slice ax2q0 lx2q0 cx2q0) := GY23.keep cY22_x2_0
 have cY23_x2_1 : Y23.cell? ⟨Y8.heap.size, 1, none⟩ = some (.slice ax2q1 lx2q1 cx2q1) := GY23.keep cY22_x2_1
 have cY23_x3_0 : Y23.cell? ⟨Y9.heap.size, 0, none⟩ = some (.slice ax3q0 lx3q0 cx3q0) := GY23.keep cY22_x3_0
 have cY23_x3_1 : Y23.cell? ⟨Y9.heap.size, 1, none⟩ = some (.slice ax3q1 lx3q1 cx3q1) := GY23.keep cY22_x3_1
 have zY23_ag := blk cY23_ag_0
 have zY23_at := blk cY23_at_0
 have zY23_ap := blk cY23_ap_0
 have zY23_am := blk cY23_am_0
 have zY23_x0 := blk cY23_x0_0
 have zY23_x1 := blk cY23_x1_0
 have zY23_x2 := blk cY23_x2_0
 have zY23_x3 := blk cY23_x3_0
 have rY23_w0 := Lib.hid (SlR.gr rY22_w0.out GY23)
 have rY23_g0 := Lib.hid (SlR.gr rY22_g0.out GY23)
 clear cY22_ag_0 cY22_ag_1 cY22_at_0 cY22_ap_0 cY22_ap_1 cY22_am_0 cY22_am_1 cY22_x0_0 cY22_x0_1 cY22_x1_0 cY22_x2_0 cY22_x2_1 cY22_x3_0 cY22_x3_1
 go_wp2_with fail
 refine (eqInstanceS_any fh0 fw0 _ _ yv yv _ rY23_h0.out rY23_w0.out).mono ?_
 rintro e Y24 ⟨rfl, gY24⟩
 rw [decide_eq_true rfl]
 have GY24 : Gr Y23 Y24 := ((Gr.refl _) : Gr Y23 Y23).trans gY24
 have GWY24 : Gr w Y24 := GWY23.trans GY24
 have ZY24 : Y23.heap.size ≤ Y24.heap.size := GY24.size
 have cY24_ag_0 : Y24.cell? ⟨w.heap.size, 0, none⟩ = some (.slice gaq0 glq0 gcq0) := GY24.keep cY23_ag_0
 have cY24_ag_1 : Y24.cell? ⟨w.heap.size, 1, none⟩ = some (.slice gaq1 glq1 gcq1) := GY24.keep cY23_ag_1
 have cY24_at_0 : Y24.cell? ⟨w.heap.size + 1, 0, none⟩ = some (.slice taq0 tlq0 tcq0) := GY24.keep cY23_at_0
 have cY24_ap_0 : Y24.cell? ⟨w.heap.size + 1 + 1, 0, none⟩ = some (.slice paq0 plq0 pcq0) := GY24.keep cY23_ap_0
 have cY24_ap_1 : Y24.cell? ⟨w.heap.size + 1 + 1, 1, none⟩ = some (.slice paq1 plq1 pcq1) := GY24.keep cY23_ap_1
 have cY24_am_0 : Y24.cell? ⟨w.heap.size + 1 + 1 + 1, 0, none⟩ = some (.slice maq0 mlq0 mcq0) := GY24.keep cY23_am_0
 have cY24_am_1 : Y24.cell? ⟨w.heap.size + 1 + 1 + 1, 1, none⟩ = some (.slice maq1 mlq1 mcq1) := GY24.keep cY23_am_1
 have cY24_x0_0 : Y24.cell? ⟨Y6.heap.size, 0, none⟩ = some (.slice ax0q0 lx0q0 cx0q0) := GY24.keep cY23_x0_0
 have cY24_x0_1 : Y24.cell? ⟨Y6.heap.size, 1, none⟩ = some (.slice ax0q1 lx0q1 cx0q1) := GY24.keep cY23_x0_1
 have cY24_x1_0 : Y24.cell? ⟨Y7.heap.size, 0, none⟩ = some (.slice ax1q0 lx1q0 cx1q0) := GY24.keep cY23_x1_0
 have cY24_x2_0 : Y24.cell? ⟨Y8.heap.size, 0, none⟩ = some (.slice ax2q0 lx2q0 cx2q0) := GY24.keep cY23_x2_0
 have cY24_x2_1 : Y24.cell? ⟨Y8.heap.size, 1, none⟩ = some (.slice ax2q1 lx2q1 cx2q1) := GY24.keep cY23_x2_1
 have cY24_x3_0 : Y24.cell? ⟨Y9.heap.size, 0, none⟩ = some (.slice ax3q0 lx3q0 cx3q0) := GY24.keep cY23_x3_0
 have cY24_x3_1 : Y24.cell? ⟨Y9.heap.size, 1, none⟩ = some (.slice ax3q1 lx3q1 cx3q1) := GY24.keep cY23_x3_1
 have zY24_ag := blk cY24_ag_0
 have zY24_at := blk cY24_at_0
 have zY24_ap := blk cY24_ap_0
 have zY24_am := blk cY24_am_0
 have zY24_x0 := blk cY24_x0_0
 have zY24_x1 := blk cY24_x1_0
 have zY24_x2 := blk cY24_x2_0
 have zY24_x3 := blk cY24_x3_0
 have rY24_w0 := Lib.hid (SlR.gr rY23_w0.out GY24)
 have rY24_g0 := Lib.hid (SlR.gr rY23_g0.out GY24)
 have rY24_h0 := Lib.hid (SlR.gr rY23_h0.out GY24)
 clear cY23_ag_0 cY23_ag_1 cY23_at_0 cY23_ap_0 cY23_ap_1 cY23_am_0 cY23_am_1 cY23_x0_0 cY23_x0_1 cY23_x1_0 cY23_x2_0 cY23_x2_1 cY23_x3_0 cY23_x3_1
 go_wp2_with fail
 refine (heldInstanceS_any fg0 _ yv 1 _ rY24_g0.out (by omega) MB1.out).mono ?_
 rintro e Y25 ⟨rfl, gY25⟩
 have GY25 : Gr Y24 Y25 := ((Gr.refl _) : Gr Y24 Y24).trans gY25
 have GWY25 : Gr w Y25 := GWY24.trans GY25
 have ZY25 : Y24.heap.size ≤ Y25.heap.size := GY25.size
 have cY25_ag_0 : Y25.cell? ⟨w.heap.size, 0, none⟩ = some (.slice gaq0 glq0 gcq0) := GY25.keep cY24_ag_0
 have cY25_ag_1 : Y25.cell? ⟨w.heap.size, 1, none⟩ = some (.slice gaq1 glq1 gcq1) := GY25.keep cY24_ag_1
 have cY25_at_0 : Y25.cell? ⟨w.heap.size + 1, 0, none⟩ = some (.slice taq0 tlq0 tcq0) := GY25.keep cY24_at_0
 have cY25_ap_0 : Y25.cell? ⟨w.heap.size + 1 + 1, 0, none⟩ = some (.slice paq0 plq0 pcq0) := GY25.keep cY24_ap_0
 have cY25_ap_1 : Y25.cell? ⟨w.heap.size + 1 + 1, 1, none⟩ = some (.slice paq1 plq1 pcq1) := GY25.keep cY24_ap_1
 have cY25_am_0 : Y25.cell? ⟨w.heap.size + 1 + 1 + 1, 0, none⟩ = some (.slice maq0 mlq0 mcq0) := GY25.keep cY24_am_0
 have cY25_am_1 : Y25.cell? ⟨w.heap.size + 1 + 1 + 1, 1, none⟩ = some (.slice maq1 mlq1 mcq1) := GY25.keep cY24_am_1
 have cY25_x0_0 : Y25.cell? ⟨Y6.heap.size, 0, none⟩ = some (.slice ax0q0 lx0q0 cx0q0) := GY25.keep cY24_x0_0
 have cY25_x0_1 : Y25.cell? ⟨Y6.heap.size, 1, none⟩ = some (.slice ax0q1 lx0q1 cx0q1) := GY25.keep cY24_x0_1
 have cY25_x1_0 : Y25.cell? ⟨Y7.heap.size, 0, none⟩ = some (.slice ax1q0 lx1q0 cx1q0) := GY25.keep cY24_x1_0
 have cY25_x2_0 : Y25.cell? ⟨Y8.heap.size, 0, none⟩ = some (.slice ax2q0 lx2q0 cx2q0) := GY25.keep cY24_x2_0
 have cY25_x2_1 : Y25.cell? ⟨Y8.heap.size, 1, none⟩ = some (.slice ax2q1 lx2q1 cx2q1) := GY25.keep cY24_x2_1
 have cY25_x3_0 : Y25.cell? ⟨Y9.heap.size, 0, none⟩ = some (.slice ax3q0 lx3q0 cx3q0) := GY25.keep cY24_x3_0
 have cY25_x3_1 : Y25.cell? ⟨Y9.heap.size, 1, none⟩ = some (.slice ax3q1 lx3q1 cx3q1) := GY25.keep cY24_x3_1
 have zY25_ag := blk cY25_ag_0
 have zY25_at := blk cY25_at_0
 have zY25_ap := blk cY25_ap_0
 have zY25_am := blk cY25_am_0
 have zY25_x0 := blk cY25_x0_0
 have zY25_x1 := blk cY25_x1_0
 have zY25_x2 := blk cY25_x2_0
 have zY25_x3 := blk cY25_x3_0
 have rY25_w0 := Lib.hid (SlR.gr rY24_w0.out GY25)
 have rY25_g0 := Lib.hid (SlR.gr rY24_g0.out GY25)
 have rY25_h0 := Lib.hid (SlR.gr rY24_h0.out GY25)
 clear cY24_ag_0 cY24_ag_1 cY24_at_0 cY24_ap_0 cY24_ap_1 cY24_am_0 cY24_am_1 cY24_x0_0 cY24_x0_1 cY24_x1_0 cY24_x2_0 cY24_x2_1 cY24_x3_0 cY24_x3_1
 go_wp2_with fail
 go_ret
 exact ⟨rfl, GWY25⟩
end Go.Proofs.YtbfmeiooeaaibaaGreat
