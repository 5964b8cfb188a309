/- The walk of the statement on IsJustified. Made by mk_lawg.py. The statement on FnExactIsJustified: for every input the law returns true, and each argument reads as it did. No condition. -/
import Derived.Test.YtbfmeiooeaaibaaGreatXJus
import Derived.Test.YtbfmeiooeaaibaaGreatJusS
import Derived.Test.YtbfmeiooeaaibaaGreatIntsC
import Derived.Deep.RegionHeld3
import Derived.Test.YtbfmeiooeaaibaaGreatRows
import Derived.Test.YtbfmeiooeaaibaaGreatOpens
import Derived.Test.YtbfmeiooeaaibaaGreatXOpen
import Derived.ShutString
import Derived.ChangeOld
namespace Go.Proofs.YtbfmeiooeaaibaaGreat
open Go.RowKit
variable {d : Nat}

theorem less_ok {L : Int} {n : Nat} (h : ¬ less L n < 0) : (n : Int) ≤ L := by
  unfold less at h
  split at h <;> omega

set_option maxRecDepth 10000 in
set_option maxHeartbeats 16000000 in
theorem lawJust_any (fpg fpt fpp fpm fpx : List Nat) (cg : Array Value) (ct : Array Value) (cp : Array Value) (cm : Array Value) (cx : Array Value) (g : (GGrammar d)) (t : GTree) (p : GMemo) (m : GMemo) (x : GInstance) (w : World) (hg : Rd.rd fpg w cg.toList g) (ht : Rd.rd fpt w ct.toList t) (hp : Rd.rd fpp w cp.toList p) (hm : Rd.rd fpm w cm.toList m) (hx : Rd.rd fpx w cx.toList x) :
    Calls Tryz.prog 4 #[.agg cg, .agg ct, .agg cp, .agg cm, .agg cx] w fun e w' => e = .returned (.bool true) ∧ Gr w w' := by
  have HG := Lib.hid hg
  have HT := Lib.hid ht
  have HP := Lib.hid hp
  have HM := Lib.hid hm
  have HX := Lib.hid hx
  obtain ⟨gaq0, glq0, gcq0, gaq1, glq1, gcq1, rfl⟩ := rdGrammar_shape hg
  clear hg
  obtain ⟨taq0, tlq0, tcq0, rfl⟩ := rdTree_shape ht
  clear ht
  obtain ⟨paq0, plq0, pcq0, paq1, plq1, pcq1, rfl⟩ := rdMemo_shape hp
  clear hp
  obtain ⟨maq0, mlq0, mcq0, maq1, mlq1, mcq1, rfl⟩ := rdMemo_shape hm
  clear hm
  obtain ⟨xaq0, xaq1, rfl⟩ := rdInstance_shape hx
  clear hx
  by_cases hs0 : less 1048576 (wtGrammar g) < 0
  · skip
    have HS0 := Lib.hid hs0
    clear hs0
    go_enter Tryz.func4, Tryz.ntmps4
    go_wp2_with fail
    refine (szGrammar_any _ _ g _ _ (Rd.gr HG.out (by repeat (first | exact Gr.refl _ | apply Gr.ext | apply Gr.alloc | apply Gr.drew))) (by omega) (by omega)).mono ?_
    rintro e w' ⟨rfl, z0, rfl⟩
    have hs0 := HS0.out
    go_wp2_with fail
    go_ret
    exact ⟨rfl, (by repeat (first | exact Gr.refl _ | apply Gr.ext | apply Gr.alloc | apply Gr.drew))⟩
  · skip
    have wtg : wtGrammar g ≤ 1048576 := by have := less_ok hs0; omega
    have bb0 := less_le 1048576 (wtGrammar g) (by omega)
    by_cases hs1 : less (less 1048576 (wtGrammar g)) (wtTree t) < 0
    · skip
      have HS0 := Lib.hid hs0
      have HS1 := Lib.hid hs1
      clear hs0 hs1
      go_enter Tryz.func4, Tryz.ntmps4
      go_wp2_with fail
      refine (szGrammar_any _ _ g _ _ (Rd.gr HG.out (by repeat (first | exact Gr.refl _ | apply Gr.ext | apply Gr.alloc | apply Gr.drew))) (by omega) (by omega)).mono ?_
      rintro e w' ⟨rfl, z0, rfl⟩
      have hs0 := HS0.out
      go_wp2_with fail
      refine (szTree_any _ _ t _ _ (Rd.gr HT.out (by repeat (first | exact Gr.refl _ | apply Gr.ext | apply Gr.alloc | apply Gr.drew))) (by omega) (by omega)).mono ?_
      rintro e w' ⟨rfl, z1, rfl⟩
      have hs1 := HS1.out
      go_wp2_with fail
      go_ret
      exact ⟨rfl, (by repeat (first | exact Gr.refl _ | apply Gr.ext | apply Gr.alloc | apply Gr.drew))⟩
    · skip
      have wtt : wtTree t ≤ 1048576 := by have := less_ok hs1; omega
      have bb1 := less_le (less 1048576 (wtGrammar g)) (wtTree t) (by omega)
      by_cases hs2 : less (less (less 1048576 (wtGrammar g)) (wtTree t)) (wtMemo p) < 0
      · skip
        have HS0 := Lib.hid hs0
        have HS1 := Lib.hid hs1
        have HS2 := Lib.hid hs2
        clear hs0 hs1 hs2
        go_enter Tryz.func4, Tryz.ntmps4
        go_wp2_with fail
        refine (szGrammar_any _ _ g _ _ (Rd.gr HG.out (by repeat (first | exact Gr.refl _ | apply Gr.ext | apply Gr.alloc | apply Gr.drew))) (by omega) (by omega)).mono ?_
        rintro e w' ⟨rfl, z0, rfl⟩
        have hs0 := HS0.out
        go_wp2_with fail
        refine (szTree_any _ _ t _ _ (Rd.gr HT.out (by repeat (first | exact Gr.refl _ | apply Gr.ext | apply Gr.alloc | apply Gr.drew))) (by omega) (by omega)).mono ?_
        rintro e w' ⟨rfl, z1, rfl⟩
        have hs1 := HS1.out
        go_wp2_with fail
        refine (szMemo_any _ _ p _ _ (Rd.gr HP.out (by repeat (first | exact Gr.refl _ | apply Gr.ext | apply Gr.alloc | apply Gr.drew))) (by omega) (by omega)).mono ?_
        rintro e w' ⟨rfl, z2, rfl⟩
        have hs2 := HS2.out
        go_wp2_with fail
        go_ret
        exact ⟨rfl, (by repeat (first | exact Gr.refl _ | apply Gr.ext | apply Gr.alloc | apply Gr.drew))⟩
      · skip
        have wtp : wtMemo p ≤ 1048576 := by have := less_ok hs2; omega
        have bb2 := less_le (less (less 1048576 (wtGrammar g)) (wtTree t)) (wtMemo p) (by omega)
        by_cases hs3 : less (less (less (less 1048576 (wtGrammar g)) (wtTree t)) (wtMemo p)) (wtMemo m) < 0
        · skip
          have HS0 := Lib.hid hs0
          have HS1 := Lib.hid hs1
          have HS2 := Lib.hid hs2
          have HS3 := Lib.hid hs3
          clear hs0 hs1 hs2 hs3
          go_enter Tryz.func4, Tryz.ntmps4
          go_wp2_with fail
          refine (szGrammar_any _ _ g _ _ (Rd.gr HG.out (by repeat (first | exact Gr.refl _ | apply Gr.ext | apply Gr.alloc | apply Gr.drew))) (by omega) (by omega)).mono ?_
          rintro e w' ⟨rfl, z0, rfl⟩
          have hs0 := HS0.out
          go_wp2_with fail
          refine (szTree_any _ _ t _ _ (Rd.gr HT.out (by repeat (first | exact Gr.refl _ | apply Gr.ext | apply Gr.alloc | apply Gr.drew))) (by omega) (by omega)).mono ?_
          rintro e w' ⟨rfl, z1, rfl⟩
          have hs1 := HS1.out
          go_wp2_with fail
          refine (szMemo_any _ _ p _ _ (Rd.gr HP.out (by repeat (first | exact Gr.refl _ | apply Gr.ext | apply Gr.alloc | apply Gr.drew))) (by omega) (by omega)).mono ?_
          rintro e w' ⟨rfl, z2, rfl⟩
          have hs2 := HS2.out
          go_wp2_with fail
          refine (szMemo_any _ _ m _ _ (Rd.gr HM.out (by repeat (first | exact Gr.refl _ | apply Gr.ext | apply Gr.alloc | apply Gr.drew))) (by omega) (by omega)).mono ?_
          rintro e w' ⟨rfl, z3, rfl⟩
          have hs3 := HS3.out
          go_wp2_with fail
          go_ret
          exact ⟨rfl, (by repeat (first | exact Gr.refl _ | apply Gr.ext | apply Gr.alloc | apply Gr.drew))⟩
        · skip
          have wtm : wtMemo m ≤ 1048576 := by have := less_ok hs3; omega
          have bb3 := less_le (less (less (less 1048576 (wtGrammar g)) (wtTree t)) (wtMemo p)) (wtMemo m) (by omega)
          by_cases hs4 : less (less (less (less (less 1048576 (wtGrammar g)) (wtTree t)) (wtMemo p)) (wtMemo m)) (wtInstance x) < 0
          · skip
            have HS0 := Lib.hid hs0
            have HS1 := Lib.hid hs1
            have HS2 := Lib.hid hs2
            have HS3 := Lib.hid hs3
            have HS4 := Lib.hid hs4
            clear hs0 hs1 hs2 hs3 hs4
            go_enter Tryz.func4, Tryz.ntmps4
            go_wp2_with fail
            refine (szGrammar_any _ _ g _ _ (Rd.gr HG.out (by repeat (first | exact Gr.refl _ | apply Gr.ext | apply Gr.alloc | apply Gr.drew))) (by omega) (by omega)).mono ?_
            rintro e w' ⟨rfl, z0, rfl⟩
            have hs0 := HS0.out
            go_wp2_with fail
            refine (szTree_any _ _ t _ _ (Rd.gr HT.out (by repeat (first | exact Gr.refl _ | apply Gr.ext | apply Gr.alloc | apply Gr.drew))) (by omega) (by omega)).mono ?_
            rintro e w' ⟨rfl, z1, rfl⟩
            have hs1 := HS1.out
            go_wp2_with fail
            refine (szMemo_any _ _ p _ _ (Rd.gr HP.out (by repeat (first | exact Gr.refl _ | apply Gr.ext | apply Gr.alloc | apply Gr.drew))) (by omega) (by omega)).mono ?_
            rintro e w' ⟨rfl, z2, rfl⟩
            have hs2 := HS2.out
            go_wp2_with fail
            refine (szMemo_any _ _ m _ _ (Rd.gr HM.out (by repeat (first | exact Gr.refl _ | apply Gr.ext | apply Gr.alloc | apply Gr.drew))) (by omega) (by omega)).mono ?_
            rintro e w' ⟨rfl, z3, rfl⟩
            have hs3 := HS3.out
            go_wp2_with fail
            refine (szInstance_any _ _ x _ _ (Rd.gr HX.out (by repeat (first | exact Gr.refl _ | apply Gr.ext | apply Gr.alloc | apply Gr.drew))) (by omega) (by omega)).mono ?_
            rintro e w' ⟨rfl, z4, rfl⟩
            have hs4 := HS4.out
            go_wp2_with fail
            go_ret
            exact ⟨rfl, (by repeat (first | exact Gr.refl _ | apply Gr.ext | apply Gr.alloc | apply Gr.drew))⟩
          · skip
            have wtx : wtInstance x ≤ 1048576 := by have := less_ok hs4; omega
            have bb4 := less_le (less (less (less (less 1048576 (wtGrammar g)) (wtTree t)) (wtMemo p)) (wtMemo m)) (wtInstance x) (by omega)
            have HS0 := Lib.hid hs0
            have HS1 := Lib.hid hs1
            have HS2 := Lib.hid hs2
            have HS3 := Lib.hid hs3
            have HS4 := Lib.hid hs4
            clear hs0 hs1 hs2 hs3 hs4
            go_enter Tryz.func4, Tryz.ntmps4
            go_wp2_with fail
            refine (szGrammar_any _ _ g _ _ (Rd.gr HG.out (by repeat (first | exact Gr.refl _ | apply Gr.ext | apply Gr.alloc | apply Gr.drew))) (by omega) (by omega)).mono ?_
            rintro e Y1 ⟨rfl, gY1⟩
            have hs0 := HS0.out
            have GY1 : Gr w Y1 := ((by repeat (first | exact Gr.refl _ | apply Gr.ext | apply Gr.alloc | apply Gr.drew)) : Gr w (((((w.alloc (.cells #[.slice gaq0 glq0 gcq0, .slice gaq1 glq1 gcq1] 25)).alloc (.cells #[.slice taq0 tlq0 tcq0] 28)).alloc (.cells #[.slice paq0 plq0 pcq0, .slice paq1 plq1 pcq1] 60)).alloc (.cells #[.slice maq0 mlq0 mcq0, .slice maq1 mlq1 mcq1] 60)).alloc (.cells #[.int .i64 xaq0, .string xaq1] 30))).trans gY1
            have GWY1 : Gr w Y1 := GY1
            have ZY1 : w.heap.size ≤ Y1.heap.size := GY1.size
            have cY1_ag_0 : Y1.cell? ⟨w.heap.size, 0, none⟩ = some (.slice gaq0 glq0 gcq0) := (((by repeat (first | exact Gr.refl _ | apply Gr.ext | apply Gr.alloc | apply Gr.drew)) : Gr (w.alloc (.cells #[.slice gaq0 glq0 gcq0, .slice gaq1 glq1 gcq1] 25)) (((((w.alloc (.cells #[.slice gaq0 glq0 gcq0, .slice gaq1 glq1 gcq1] 25)).alloc (.cells #[.slice taq0 tlq0 tcq0] 28)).alloc (.cells #[.slice paq0 plq0 pcq0, .slice paq1 plq1 pcq1] 60)).alloc (.cells #[.slice maq0 mlq0 mcq0, .slice maq1 mlq1 mcq1] 60)).alloc (.cells #[.int .i64 xaq0, .string xaq1] 30))).trans gY1).keep (box_cell (A := _) (by simp) rfl : ((w.alloc (.cells #[.slice gaq0 glq0 gcq0, .slice gaq1 glq1 gcq1] 25))).cell? ⟨w.heap.size, 0, none⟩ = some (.slice gaq0 glq0 gcq0))
            have cY1_ag_1 : Y1.cell? ⟨w.heap.size, 1, none⟩ = some (.slice gaq1 glq1 gcq1) := (((by repeat (first | exact Gr.refl _ | apply Gr.ext | apply Gr.alloc | apply Gr.drew)) : Gr (w.alloc (.cells #[.slice gaq0 glq0 gcq0, .slice gaq1 glq1 gcq1] 25)) (((((w.alloc (.cells #[.slice gaq0 glq0 gcq0, .slice gaq1 glq1 gcq1] 25)).alloc (.cells #[.slice taq0 tlq0 tcq0] 28)).alloc (.cells #[.slice paq0 plq0 pcq0, .slice paq1 plq1 pcq1] 60)).alloc (.cells #[.slice maq0 mlq0 mcq0, .slice maq1 mlq1 mcq1] 60)).alloc (.cells #[.int .i64 xaq0, .string xaq1] 30))).trans gY1).keep (box_cell (A := _) (by simp) rfl : ((w.alloc (.cells #[.slice gaq0 glq0 gcq0, .slice gaq1 glq1 gcq1] 25))).cell? ⟨w.heap.size, 1, none⟩ = some (.slice gaq1 glq1 gcq1))
            have cY1_at_0 : Y1.cell? ⟨w.heap.size + 1, 0, none⟩ = some (.slice taq0 tlq0 tcq0) := (((by repeat (first | exact Gr.refl _ | apply Gr.ext | apply Gr.alloc | apply Gr.drew)) : Gr ((w.alloc (.cells #[.slice gaq0 glq0 gcq0, .slice gaq1 glq1 gcq1] 25)).alloc (.cells #[.slice taq0 tlq0 tcq0] 28)) (((((w.alloc (.cells #[.slice gaq0 glq0 gcq0, .slice gaq1 glq1 gcq1] 25)).alloc (.cells #[.slice taq0 tlq0 tcq0] 28)).alloc (.cells #[.slice paq0 plq0 pcq0, .slice paq1 plq1 pcq1] 60)).alloc (.cells #[.slice maq0 mlq0 mcq0, .slice maq1 mlq1 mcq1] 60)).alloc (.cells #[.int .i64 xaq0, .string xaq1] 30))).trans gY1).keep (box_cell (A := _) (by simp) rfl : (((w.alloc (.cells #[.slice gaq0 glq0 gcq0, .slice gaq1 glq1 gcq1] 25)).alloc (.cells #[.slice taq0 tlq0 tcq0] 28))).cell? ⟨w.heap.size + 1, 0, none⟩ = some (.slice taq0 tlq0 tcq0))
            have cY1_ap_0 : Y1.cell? ⟨w.heap.size + 1 + 1, 0, none⟩ = some (.slice paq0 plq0 pcq0) := (((by repeat (first | exact Gr.refl _ | apply Gr.ext | apply Gr.alloc | apply Gr.drew)) : Gr (((w.alloc (.cells #[.slice gaq0 glq0 gcq0, .slice gaq1 glq1 gcq1] 25)).alloc (.cells #[.slice taq0 tlq0 tcq0] 28)).alloc (.cells #[.slice paq0 plq0 pcq0, .slice paq1 plq1 pcq1] 60)) (((((w.alloc (.cells #[.slice gaq0 glq0 gcq0, .slice gaq1 glq1 gcq1] 25)).alloc (.cells #[.slice taq0 tlq0 tcq0] 28)).alloc (.cells #[.slice paq0 plq0 pcq0, .slice paq1 plq1 pcq1] 60)).alloc (.cells #[.slice maq0 mlq0 mcq0, .slice maq1 mlq1 mcq1] 60)).alloc (.cells #[.int .i64 xaq0, .string xaq1] 30))).trans gY1).keep (box_cell (A := _) (by simp) rfl : ((((w.alloc (.cells #[.slice gaq0 glq0 gcq0, .slice gaq1 glq1 gcq1] 25)).alloc (.cells #[.slice taq0 tlq0 tcq0] 28)).alloc (.cells #[.slice paq0 plq0 pcq0, .slice paq1 plq1 pcq1] 60))).cell? ⟨w.heap.size + 1 + 1, 0, none⟩ = some (.slice paq0 plq0 pcq0))
            have cY1_ap_1 : Y1.cell? ⟨w.heap.size + 1 + 1, 1, none⟩ = some (.slice paq1 plq1 pcq1) := (((by repeat (first | exact Gr.refl _ | apply Gr.ext | apply Gr.alloc | apply Gr.drew)) : Gr (((w.alloc (.cells #[.slice gaq0 glq0 gcq0, .slice gaq1 glq1 gcq1] 25)).alloc (.cells #[.slice taq0 tlq0 tcq0] 28)).alloc (.cells #[.slice paq0 plq0 pcq0, .slice paq1 plq1 pcq1] 60)) (((((w.alloc (.cells #[.slice gaq0 glq0 gcq0, .slice gaq1 glq1 gcq1] 25)).alloc (.cells #[.slice taq0 tlq0 tcq0] 28)).alloc (.cells #[.slice paq0 plq0 pcq0, .slice paq1 plq1 pcq1] 60)).alloc (.cells #[.slice maq0 mlq0 mcq0, .slice maq1 mlq1 mcq1] 60)).alloc (.cells #[.int .i64 xaq0, .string xaq1] 30))).trans gY1).keep (box_cell (A := _) (by simp) rfl : ((((w.alloc (.cells #[.slice gaq0 glq0 gcq0, .slice gaq1 glq1 gcq1] 25)).alloc (.cells #[.slice taq0 tlq0 tcq0] 28)).alloc (.cells #[.slice paq0 plq0 pcq0, .slice paq1 plq1 pcq1] 60))).cell? ⟨w.heap.size + 1 + 1, 1, none⟩ = some (.slice paq1 plq1 pcq1))
            have cY1_am_0 : Y1.cell? ⟨w.heap.size + 1 + 1 + 1, 0, none⟩ = some (.slice maq0 mlq0 mcq0) := (((by repeat (first | exact Gr.refl _ | apply Gr.ext | apply Gr.alloc | apply Gr.drew)) : Gr ((((w.alloc (.cells #[.slice gaq0 glq0 gcq0, .slice gaq1 glq1 gcq1] 25)).alloc (.cells #[.slice taq0 tlq0 tcq0] 28)).alloc (.cells #[.slice paq0 plq0 pcq0, .slice paq1 plq1 pcq1] 60)).alloc (.cells #[.slice maq0 mlq0 mcq0, .slice maq1 mlq1 mcq1] 60)) (((((w.alloc (.cells #[.slice gaq0 glq0 gcq0, .slice gaq1 glq1 gcq1] 25)).alloc (.cells #[.slice taq0 tlq0 tcq0] 28)).alloc (.cells #[.slice paq0 plq0 pcq0, .slice paq1 plq1 pcq1] 60)).alloc (.cells #[.slice maq0 mlq0 mcq0, .slice maq1 mlq1 mcq1] 60)).alloc (.cells #[.int .i64 xaq0, .string xaq1] 30))).trans gY1).keep (box_cell (A := _) (by simp) rfl : (((((w.alloc (.cells #[.slice gaq0 glq0 gcq0, .slice gaq1 glq1 gcq1] 25)).alloc (.cells #[.slice taq0 tlq0 tcq0] 28)).alloc (.cells #[.slice paq0 plq0 pcq0, .slice paq1 plq1 pcq1] 60)).alloc (.cells #[.slice maq0 mlq0 mcq0, .slice maq1 mlq1 mcq1] 60))).cell? ⟨w.heap.size + 1 + 1 + 1, 0, none⟩ = some (.slice maq0 mlq0 mcq0))
            have cY1_am_1 : Y1.cell? ⟨w.heap.size + 1 + 1 + 1, 1, none⟩ = some (.slice maq1 mlq1 mcq1) := (((by repeat (first | exact Gr.refl _ | apply Gr.ext | apply Gr.alloc | apply Gr.drew)) : Gr ((((w.alloc (.cells #[.slice gaq0 glq0 gcq0, .slice gaq1 glq1 gcq1] 25)).alloc (.cells #[.slice taq0 tlq0 tcq0] 28)).alloc (.cells #[.slice paq0 plq0 pcq0, .slice paq1 plq1 pcq1] 60)).alloc (.cells #[.slice maq0 mlq0 mcq0, .slice maq1 mlq1 mcq1] 60)) (((((w.alloc (.cells #[.slice gaq0 glq0 gcq0, .slice gaq1 glq1 gcq1] 25)).alloc (.cells #[.slice taq0 tlq0 tcq0] 28)).alloc (.cells #[.slice paq0 plq0 pcq0, .slice paq1 plq1 pcq1] 60)).alloc (.cells #[.slice maq0 mlq0 mcq0, .slice maq1 mlq1 mcq1] 60)).alloc (.cells #[.int .i64 xaq0, .string xaq1] 30))).trans gY1).keep (box_cell (A := _) (by simp) rfl : (((((w.alloc (.cells #[.slice gaq0 glq0 gcq0, .slice gaq1 glq1 gcq1] 25)).alloc (.cells #[.slice taq0 tlq0 tcq0] 28)).alloc (.cells #[.slice paq0 plq0 pcq0, .slice paq1 plq1 pcq1] 60)).alloc (.cells #[.slice maq0 mlq0 mcq0, .slice maq1 mlq1 mcq1] 60))).cell? ⟨w.heap.size + 1 + 1 + 1, 1, none⟩ = some (.slice maq1 mlq1 mcq1))
            have cY1_ax_0 : Y1.cell? ⟨w.heap.size + 1 + 1 + 1 + 1, 0, none⟩ = some (.int .i64 xaq0) := (((by repeat (first | exact Gr.refl _ | apply Gr.ext | apply Gr.alloc | apply Gr.drew)) : Gr (((((w.alloc (.cells #[.slice gaq0 glq0 gcq0, .slice gaq1 glq1 gcq1] 25)).alloc (.cells #[.slice taq0 tlq0 tcq0] 28)).alloc (.cells #[.slice paq0 plq0 pcq0, .slice paq1 plq1 pcq1] 60)).alloc (.cells #[.slice maq0 mlq0 mcq0, .slice maq1 mlq1 mcq1] 60)).alloc (.cells #[.int .i64 xaq0, .string xaq1] 30)) (((((w.alloc (.cells #[.slice gaq0 glq0 gcq0, .slice gaq1 glq1 gcq1] 25)).alloc (.cells #[.slice taq0 tlq0 tcq0] 28)).alloc (.cells #[.slice paq0 plq0 pcq0, .slice paq1 plq1 pcq1] 60)).alloc (.cells #[.slice maq0 mlq0 mcq0, .slice maq1 mlq1 mcq1] 60)).alloc (.cells #[.int .i64 xaq0, .string xaq1] 30))).trans gY1).keep (box_cell (A := _) (by simp) rfl : ((((((w.alloc (.cells #[.slice gaq0 glq0 gcq0, .slice gaq1 glq1 gcq1] 25)).alloc (.cells #[.slice taq0 tlq0 tcq0] 28)).alloc (.cells #[.slice paq0 plq0 pcq0, .slice paq1 plq1 pcq1] 60)).alloc (.cells #[.slice maq0 mlq0 mcq0, .slice maq1 mlq1 mcq1] 60)).alloc (.cells #[.int .i64 xaq0, .string xaq1] 30))).cell? ⟨w.heap.size + 1 + 1 + 1 + 1, 0, none⟩ = some (.int .i64 xaq0))
            have cY1_ax_1 : Y1.cell? ⟨w.heap.size + 1 + 1 + 1 + 1, 1, none⟩ = some (.string xaq1) := (((by repeat (first | exact Gr.refl _ | apply Gr.ext | apply Gr.alloc | apply Gr.drew)) : Gr (((((w.alloc (.cells #[.slice gaq0 glq0 gcq0, .slice gaq1 glq1 gcq1] 25)).alloc (.cells #[.slice taq0 tlq0 tcq0] 28)).alloc (.cells #[.slice paq0 plq0 pcq0, .slice paq1 plq1 pcq1] 60)).alloc (.cells #[.slice maq0 mlq0 mcq0, .slice maq1 mlq1 mcq1] 60)).alloc (.cells #[.int .i64 xaq0, .string xaq1] 30)) (((((w.alloc (.cells #[.slice gaq0 glq0 gcq0, .slice gaq1 glq1 gcq1] 25)).alloc (.cells #[.slice taq0 tlq0 tcq0] 28)).alloc (.cells #[.slice paq0 plq0 pcq0, .slice paq1 plq1 pcq1] 60)).alloc (.cells #[.slice maq0 mlq0 mcq0, .slice maq1 mlq1 mcq1] 60)).alloc (.cells #[.int .i64 xaq0, .string xaq1] 30))).trans gY1).keep (box_cell (A := _) (by simp) rfl : ((((((w.alloc (.cells #[.slice gaq0 glq0 gcq0, .slice gaq1 glq1 gcq1] 25)).alloc (.cells #[.slice taq0 tlq0 tcq0] 28)).alloc (.cells #[.slice paq0 plq0 pcq0, .slice paq1 plq1 pcq1] 60)).alloc (.cells #[.slice maq0 mlq0 mcq0, .slice maq1 mlq1 mcq1] 60)).alloc (.cells #[.int .i64 xaq0, .string xaq1] 30))).cell? ⟨w.heap.size + 1 + 1 + 1 + 1, 1, none⟩ = some (.string xaq1))
            have zY1_ag := blk cY1_ag_0
            have zY1_at := blk cY1_at_0
            have zY1_ap := blk cY1_ap_0
            have zY1_am := blk cY1_am_0
            have zY1_ax := blk cY1_ax_0
            go_wp2_with fail
            refine (szTree_any _ _ t _ _ (Rd.gr HT.out ((GWY1).trans (by repeat (first | exact Gr.refl _ | apply Gr.ext | apply Gr.alloc | apply Gr.drew)))) (by omega) (by omega)).mono ?_
            rintro e Y2 ⟨rfl, gY2⟩
            have hs1 := HS1.out
            have GY2 : Gr Y1 Y2 := ((by repeat (first | exact Gr.refl _ | apply Gr.ext | apply Gr.alloc | apply Gr.drew)) : Gr Y1 Y1).trans gY2
            have GWY2 : Gr w Y2 := GWY1.trans GY2
            have ZY2 : Y1.heap.size ≤ Y2.heap.size := GY2.size
            have cY2_ag_0 : Y2.cell? ⟨w.heap.size, 0, none⟩ = some (.slice gaq0 glq0 gcq0) := GY2.keep cY1_ag_0
            have cY2_ag_1 : Y2.cell? ⟨w.heap.size, 1, none⟩ = some (.slice gaq1 glq1 gcq1) := GY2.keep cY1_ag_1
            have cY2_at_0 : Y2.cell? ⟨w.heap.size + 1, 0, none⟩ = some (.slice taq0 tlq0 tcq0) := GY2.keep cY1_at_0
            have cY2_ap_0 : Y2.cell? ⟨w.heap.size + 1 + 1, 0, none⟩ = some (.slice paq0 plq0 pcq0) := GY2.keep cY1_ap_0
            have cY2_ap_1 : Y2.cell? ⟨w.heap.size + 1 + 1, 1, none⟩ = some (.slice paq1 plq1 pcq1) := GY2.keep cY1_ap_1
            have cY2_am_0 : Y2.cell? ⟨w.heap.size + 1 + 1 + 1, 0, none⟩ = some (.slice maq0 mlq0 mcq0) := GY2.keep cY1_am_0
            have cY2_am_1 : Y2.cell? ⟨w.heap.size + 1 + 1 + 1, 1, none⟩ = some (.slice maq1 mlq1 mcq1) := GY2.keep cY1_am_1
            have cY2_ax_0 : Y2.cell? ⟨w.heap.size + 1 + 1 + 1 + 1, 0, none⟩ = some (.int .i64 xaq0) := GY2.keep cY1_ax_0
            have cY2_ax_1 : Y2.cell? ⟨w.heap.size + 1 + 1 + 1 + 1, 1, none⟩ = some (.string xaq1) := GY2.keep cY1_ax_1
            have zY2_ag := blk cY2_ag_0
            have zY2_at := blk cY2_at_0
            have zY2_ap := blk cY2_ap_0
            have zY2_am := blk cY2_am_0
            have zY2_ax := blk cY2_ax_0
            clear cY1_ag_0 cY1_ag_1 cY1_at_0 cY1_ap_0 cY1_ap_1 cY1_am_0 cY1_am_1 cY1_ax_0 cY1_ax_1
            go_wp2_with fail
            refine (szMemo_any _ _ p _ _ (Rd.gr HP.out ((GWY2).trans (by repeat (first | exact Gr.refl _ | apply Gr.ext | apply Gr.alloc | apply Gr.drew)))) (by omega) (by omega)).mono ?_
            rintro e Y3 ⟨rfl, gY3⟩
            have hs2 := HS2.out
            have GY3 : Gr Y2 Y3 := ((by repeat (first | exact Gr.refl _ | apply Gr.ext | apply Gr.alloc | apply Gr.drew)) : Gr Y2 Y2).trans gY3
            have GWY3 : Gr w Y3 := GWY2.trans GY3
            have ZY3 : Y2.heap.size ≤ Y3.heap.size := GY3.size
            have cY3_ag_0 : Y3.cell? ⟨w.heap.size, 0, none⟩ = some (.slice gaq0 glq0 gcq0) := GY3.keep cY2_ag_0
            have cY3_ag_1 : Y3.cell? ⟨w.heap.size, 1, none⟩ = some (.slice gaq1 glq1 gcq1) := GY3.keep cY2_ag_1
            have cY3_at_0 : Y3.cell? ⟨w.heap.size + 1, 0, none⟩ = some (.slice taq0 tlq0 tcq0) := GY3.keep cY2_at_0
            have cY3_ap_0 : Y3.cell? ⟨w.heap.size + 1 + 1, 0, none⟩ = some (.slice paq0 plq0 pcq0) := GY3.keep cY2_ap_0
            have cY3_ap_1 : Y3.cell? ⟨w.heap.size + 1 + 1, 1, none⟩ = some (.slice paq1 plq1 pcq1) := GY3.keep cY2_ap_1
            have cY3_am_0 : Y3.cell? ⟨w.heap.size + 1 + 1 + 1, 0, none⟩ = some (.slice maq0 mlq0 mcq0) := GY3.keep cY2_am_0
            have cY3_am_1 : Y3.cell? ⟨w.heap.size + 1 + 1 + 1, 1, none⟩ = some (.slice maq1 mlq1 mcq1) := GY3.keep cY2_am_1
            have cY3_ax_0 : Y3.cell? ⟨w.heap.size + 1 + 1 + 1 + 1, 0, none⟩ = some (.int .i64 xaq0) := GY3.keep cY2_ax_0
            have cY3_ax_1 : Y3.cell? ⟨w.heap.size + 1 + 1 + 1 + 1, 1, none⟩ = some (.string xaq1) := GY3.keep cY2_ax_1
            have zY3_ag := blk cY3_ag_0
            have zY3_at := blk cY3_at_0
            have zY3_ap := blk cY3_ap_0
            have zY3_am := blk cY3_am_0
            have zY3_ax := blk cY3_ax_0
            clear cY2_ag_0 cY2_ag_1 cY2_at_0 cY2_ap_0 cY2_ap_1 cY2_am_0 cY2_am_1 cY2_ax_0 cY2_ax_1
            go_wp2_with fail
            refine (szMemo_any _ _ m _ _ (Rd.gr HM.out ((GWY3).trans (by repeat (first | exact Gr.refl _ | apply Gr.ext | apply Gr.alloc | apply Gr.drew)))) (by omega) (by omega)).mono ?_
            rintro e Y4 ⟨rfl, gY4⟩
            have hs3 := HS3.out
            have GY4 : Gr Y3 Y4 := ((by repeat (first | exact Gr.refl _ | apply Gr.ext | apply Gr.alloc | apply Gr.drew)) : Gr Y3 Y3).trans gY4
            have GWY4 : Gr w Y4 := GWY3.trans GY4
            have ZY4 : Y3.heap.size ≤ Y4.heap.size := GY4.size
            have cY4_ag_0 : Y4.cell? ⟨w.heap.size, 0, none⟩ = some (.slice gaq0 glq0 gcq0) := GY4.keep cY3_ag_0
            have cY4_ag_1 : Y4.cell? ⟨w.heap.size, 1, none⟩ = some (.slice gaq1 glq1 gcq1) := GY4.keep cY3_ag_1
            have cY4_at_0 : Y4.cell? ⟨w.heap.size + 1, 0, none⟩ = some (.slice taq0 tlq0 tcq0) := GY4.keep cY3_at_0
            have cY4_ap_0 : Y4.cell? ⟨w.heap.size + 1 + 1, 0, none⟩ = some (.slice paq0 plq0 pcq0) := GY4.keep cY3_ap_0
            have cY4_ap_1 : Y4.cell? ⟨w.heap.size + 1 + 1, 1, none⟩ = some (.slice paq1 plq1 pcq1) := GY4.keep cY3_ap_1
            have cY4_am_0 : Y4.cell? ⟨w.heap.size + 1 + 1 + 1, 0, none⟩ = some (.slice maq0 mlq0 mcq0) := GY4.keep cY3_am_0
            have cY4_am_1 : Y4.cell? ⟨w.heap.size + 1 + 1 + 1, 1, none⟩ = some (.slice maq1 mlq1 mcq1) := GY4.keep cY3_am_1
            have cY4_ax_0 : Y4.cell? ⟨w.heap.size + 1 + 1 + 1 + 1, 0, none⟩ = some (.int .i64 xaq0) := GY4.keep cY3_ax_0
            have cY4_ax_1 : Y4.cell? ⟨w.heap.size + 1 + 1 + 1 + 1, 1, none⟩ = some (.string xaq1) := GY4.keep cY3_ax_1
            have zY4_ag := blk cY4_ag_0
            have zY4_at := blk cY4_at_0
            have zY4_ap := blk cY4_ap_0
            have zY4_am := blk cY4_am_0
            have zY4_ax := blk cY4_ax_0
            clear cY3_ag_0 cY3_ag_1 cY3_at_0 cY3_ap_0 cY3_ap_1 cY3_am_0 cY3_am_1 cY3_ax_0 cY3_ax_1
            go_wp2_with fail
            refine (szInstance_any _ _ x _ _ (Rd.gr HX.out ((GWY4).trans (by repeat (first | exact Gr.refl _ | apply Gr.ext | apply Gr.alloc | apply Gr.drew)))) (by omega) (by omega)).mono ?_
            rintro e Y5 ⟨rfl, gY5⟩
            have hs4 := HS4.out
            have GY5 : Gr Y4 Y5 := ((by repeat (first | exact Gr.refl _ | apply Gr.ext | apply Gr.alloc | apply Gr.drew)) : Gr Y4 Y4).trans gY5
            have GWY5 : Gr w Y5 := GWY4.trans GY5
            have ZY5 : Y4.heap.size ≤ Y5.heap.size := GY5.size
            have cY5_ag_0 : Y5.cell? ⟨w.heap.size, 0, none⟩ = some (.slice gaq0 glq0 gcq0) := GY5.keep cY4_ag_0
            have cY5_ag_1 : Y5.cell? ⟨w.heap.size, 1, none⟩ = some (.slice gaq1 glq1 gcq1) := GY5.keep cY4_ag_1
            have cY5_at_0 : Y5.cell? ⟨w.heap.size + 1, 0, none⟩ = some (.slice taq0 tlq0 tcq0) := GY5.keep cY4_at_0
            have cY5_ap_0 : Y5.cell? ⟨w.heap.size + 1 + 1, 0, none⟩ = some (.slice paq0 plq0 pcq0) := GY5.keep cY4_ap_0
            have cY5_ap_1 : Y5.cell? ⟨w.heap.size + 1 + 1, 1, none⟩ = some (.slice paq1 plq1 pcq1) := GY5.keep cY4_ap_1
            have cY5_am_0 : Y5.cell? ⟨w.heap.size + 1 + 1 + 1, 0, none⟩ = some (.slice maq0 mlq0 mcq0) := GY5.keep cY4_am_0
            have cY5_am_1 : Y5.cell? ⟨w.heap.size + 1 + 1 + 1, 1, none⟩ = some (.slice maq1 mlq1 mcq1) := GY5.keep cY4_am_1
            have cY5_ax_0 : Y5.cell? ⟨w.heap.size + 1 + 1 + 1 + 1, 0, none⟩ = some (.int .i64 xaq0) := GY5.keep cY4_ax_0
            have cY5_ax_1 : Y5.cell? ⟨w.heap.size + 1 + 1 + 1 + 1, 1, none⟩ = some (.string xaq1) := GY5.keep cY4_ax_1
            have zY5_ag := blk cY5_ag_0
            have zY5_at := blk cY5_at_0
            have zY5_ap := blk cY5_ap_0
            have zY5_am := blk cY5_am_0
            have zY5_ax := blk cY5_ax_0
            clear cY4_ag_0 cY4_ag_1 cY4_at_0 cY4_ap_0 cY4_ap_1 cY4_am_0 cY4_am_1 cY4_ax_0 cY4_ax_1
            go_wp2_with fail
            clear hs0 hs1 hs2 hs3 hs4
            have kcY5_ag_0 : ∀ w' : World, Gr Y5 w' → w'.cell? ⟨w.heap.size, 0, none⟩ = some (.slice gaq0 glq0 gcq0) := fun w' h => h.keep cY5_ag_0
            have kcY5_ag_1 : ∀ w' : World, Gr Y5 w' → w'.cell? ⟨w.heap.size, 1, none⟩ = some (.slice gaq1 glq1 gcq1) := fun w' h => h.keep cY5_ag_1
            have kcY5_at_0 : ∀ w' : World, Gr Y5 w' → w'.cell? ⟨w.heap.size + 1, 0, none⟩ = some (.slice taq0 tlq0 tcq0) := fun w' h => h.keep cY5_at_0
            have kcY5_ap_0 : ∀ w' : World, Gr Y5 w' → w'.cell? ⟨w.heap.size + 1 + 1, 0, none⟩ = some (.slice paq0 plq0 pcq0) := fun w' h => h.keep cY5_ap_0
            have kcY5_ap_1 : ∀ w' : World, Gr Y5 w' → w'.cell? ⟨w.heap.size + 1 + 1, 1, none⟩ = some (.slice paq1 plq1 pcq1) := fun w' h => h.keep cY5_ap_1
            have kcY5_am_0 : ∀ w' : World, Gr Y5 w' → w'.cell? ⟨w.heap.size + 1 + 1 + 1, 0, none⟩ = some (.slice maq0 mlq0 mcq0) := fun w' h => h.keep cY5_am_0
            have kcY5_am_1 : ∀ w' : World, Gr Y5 w' → w'.cell? ⟨w.heap.size + 1 + 1 + 1, 1, none⟩ = some (.slice maq1 mlq1 mcq1) := fun w' h => h.keep cY5_am_1
            have kcY5_ax_0 : ∀ w' : World, Gr Y5 w' → w'.cell? ⟨w.heap.size + 1 + 1 + 1 + 1, 0, none⟩ = some (.int .i64 xaq0) := fun w' h => h.keep cY5_ax_0
            have kcY5_ax_1 : ∀ w' : World, Gr Y5 w' → w'.cell? ⟨w.heap.size + 1 + 1 + 1 + 1, 1, none⟩ = some (.string xaq1) := fun w' h => h.keep cY5_ax_1
            go_region_held3 (fun w' => Gr Y5 w') (first | assumption | exact Gr.drew (Gr.refl _) | exact Gr.ext (by assumption) _)
              (first
                | ((go_at_call_of 10 gaq0; refine (toGrammar_any _ _ g _ (Rd.gr HG.out (GWY5.trans (by assumption))) wtg).mono ?_; rintro e w' ⟨ds0, ff0, rfl, ss0, fr0, ex0, rfl⟩))
                | ((go_at_call_of 11 taq0; refine (toTree_any _ _ t _ (Rd.gr HT.out (GWY5.trans (by assumption))) wtt).mono ?_; rintro e w' ⟨ds1, ff1, rfl, ss1, fr1, ex1, rfl⟩))
                | ((go_at_call_of 23 paq0; refine (toMemo_any _ _ p _ (Rd.gr HP.out (GWY5.trans (by assumption))) wtp).mono ?_; rintro e w' ⟨ds2, ff2, rfl, ss2, fr2, ex2, rfl⟩))
                | ((go_at_call_of 23 maq0; refine (toMemo_any _ _ m _ (Rd.gr HM.out (GWY5.trans (by assumption))) wtm).mono ?_; rintro e w' ⟨ds3, ff3, rfl, ss3, fr3, ex3, rfl⟩))
                | ((go_at_call 12; refine (toInstance_any _ _ x _ (Rd.gr HX.out (GWY5.trans (by assumption)))).mono ?_; rintro e w' ⟨rfl, ex4, rfl⟩))
                | ((go_at_call 22; refine (specJust_any g t p m x _ (Rd.gr ss0 (by repeat (first | exact Gr.refl _ | apply Gr.ext | apply Gr.alloc | apply Gr.drew))) (Rd.gr ss1 (by repeat (first | exact Gr.refl _ | apply Gr.ext | apply Gr.alloc | apply Gr.drew))) (Rd.gr ss2 (by repeat (first | exact Gr.refl _ | apply Gr.ext | apply Gr.alloc | apply Gr.drew))) (Rd.gr ss3 (by repeat (first | exact Gr.refl _ | apply Gr.ext | apply Gr.alloc | apply Gr.drew))) (Rd.gr HX.out (GWY5.trans (by first | assumption | exact (by repeat (first | exact Gr.refl _ | apply Gr.ext | apply Gr.alloc | apply Gr.drew))))) wtg wtt wtp wtm).mono ?_; rintro e w' ⟨rfl, exz, rfl⟩)))
            have hY6 : Gr Y5 ((((((Y5.drew.ext ex0).ext ex1).ext ex2).ext ex3).ext ex4).ext exz) := by assumption
            generalize ((((((Y5.drew.ext ex0).ext ex1).ext ex2).ext ex3).ext ex4).ext exz) = Y6 at hY6 ⊢
            clear kcY5_ag_0 kcY5_ag_1 kcY5_at_0 kcY5_ap_0 kcY5_ap_1 kcY5_am_0 kcY5_am_1 kcY5_ax_0 kcY5_ax_1
            have GY6 : Gr Y5 Y6 := ((by repeat (first | exact Gr.refl _ | apply Gr.ext | apply Gr.alloc | apply Gr.drew)) : Gr Y5 Y5).trans hY6
            have GWY6 : Gr w Y6 := GWY5.trans GY6
            have ZY6 : Y5.heap.size ≤ Y6.heap.size := GY6.size
            have cY6_ag_0 : Y6.cell? ⟨w.heap.size, 0, none⟩ = some (.slice gaq0 glq0 gcq0) := GY6.keep cY5_ag_0
            have cY6_ag_1 : Y6.cell? ⟨w.heap.size, 1, none⟩ = some (.slice gaq1 glq1 gcq1) := GY6.keep cY5_ag_1
            have cY6_at_0 : Y6.cell? ⟨w.heap.size + 1, 0, none⟩ = some (.slice taq0 tlq0 tcq0) := GY6.keep cY5_at_0
            have cY6_ap_0 : Y6.cell? ⟨w.heap.size + 1 + 1, 0, none⟩ = some (.slice paq0 plq0 pcq0) := GY6.keep cY5_ap_0
            have cY6_ap_1 : Y6.cell? ⟨w.heap.size + 1 + 1, 1, none⟩ = some (.slice paq1 plq1 pcq1) := GY6.keep cY5_ap_1
            have cY6_am_0 : Y6.cell? ⟨w.heap.size + 1 + 1 + 1, 0, none⟩ = some (.slice maq0 mlq0 mcq0) := GY6.keep cY5_am_0
            have cY6_am_1 : Y6.cell? ⟨w.heap.size + 1 + 1 + 1, 1, none⟩ = some (.slice maq1 mlq1 mcq1) := GY6.keep cY5_am_1
            have cY6_ax_0 : Y6.cell? ⟨w.heap.size + 1 + 1 + 1 + 1, 0, none⟩ = some (.int .i64 xaq0) := GY6.keep cY5_ax_0
            have cY6_ax_1 : Y6.cell? ⟨w.heap.size + 1 + 1 + 1 + 1, 1, none⟩ = some (.string xaq1) := GY6.keep cY5_ax_1
            have zY6_ag := blk cY6_ag_0
            have zY6_at := blk cY6_at_0
            have zY6_ap := blk cY6_ap_0
            have zY6_am := blk cY6_am_0
            have zY6_ax := blk cY6_ax_0
            clear cY5_ag_0 cY5_ag_1 cY5_at_0 cY5_ap_0 cY5_ap_1 cY5_am_0 cY5_am_1 cY5_ax_0 cY5_ax_1
            clear ss0 fr0 ss1 fr1 ss2 fr2 ss3 fr3
            go_wp2_with fail
            refine (toGrammar_any _ _ g _ (Rd.gr HG.out ((GWY6).trans (by repeat (first | exact Gr.refl _ | apply Gr.ext | apply Gr.alloc | apply Gr.drew)))) wtg).mono ?_
            rintro e Y7 ⟨dsx0, fx0, rfl, sx0, frx0, gY7⟩
            obtain ⟨ax0q0, lx0q0, cx0q0, ax0q1, lx0q1, cx0q1, rfl⟩ := rdGrammar_shape sx0
            have F_x0 : Hid (fx0.Nodup ∧ ∀ b ∈ fx0, Y6.heap.size + 0 ≤ b) := Lib.hid ⟨frx0.1, fun b hb => by have h := frx0.2 b hb; (try simp at h); omega⟩
            have L_x0 := Lib.hid (Rd.lt sx0)
            have ZW0x0 : w.heap.size ≤ Y6.heap.size := Gr.size GWY6
            have rY7_x0 := Lib.hid sx0
            clear sx0 frx0
            have GY7 : Gr Y6 Y7 := ((by repeat (first | exact Gr.refl _ | apply Gr.ext | apply Gr.alloc | apply Gr.drew)) : Gr Y6 Y6).trans gY7
            have GWY7 : Gr w Y7 := GWY6.trans GY7
            have ZY7 : Y6.heap.size ≤ Y7.heap.size := GY7.size
            have cY7_ag_0 : Y7.cell? ⟨w.heap.size, 0, none⟩ = some (.slice gaq0 glq0 gcq0) := GY7.keep cY6_ag_0
            have cY7_ag_1 : Y7.cell? ⟨w.heap.size, 1, none⟩ = some (.slice gaq1 glq1 gcq1) := GY7.keep cY6_ag_1
            have cY7_at_0 : Y7.cell? ⟨w.heap.size + 1, 0, none⟩ = some (.slice taq0 tlq0 tcq0) := GY7.keep cY6_at_0
            have cY7_ap_0 : Y7.cell? ⟨w.heap.size + 1 + 1, 0, none⟩ = some (.slice paq0 plq0 pcq0) := GY7.keep cY6_ap_0
            have cY7_ap_1 : Y7.cell? ⟨w.heap.size + 1 + 1, 1, none⟩ = some (.slice paq1 plq1 pcq1) := GY7.keep cY6_ap_1
            have cY7_am_0 : Y7.cell? ⟨w.heap.size + 1 + 1 + 1, 0, none⟩ = some (.slice maq0 mlq0 mcq0) := GY7.keep cY6_am_0
            have cY7_am_1 : Y7.cell? ⟨w.heap.size + 1 + 1 + 1, 1, none⟩ = some (.slice maq1 mlq1 mcq1) := GY7.keep cY6_am_1
            have cY7_ax_0 : Y7.cell? ⟨w.heap.size + 1 + 1 + 1 + 1, 0, none⟩ = some (.int .i64 xaq0) := GY7.keep cY6_ax_0
            have cY7_ax_1 : Y7.cell? ⟨w.heap.size + 1 + 1 + 1 + 1, 1, none⟩ = some (.string xaq1) := GY7.keep cY6_ax_1
            have zY7_ag := blk cY7_ag_0
            have zY7_at := blk cY7_at_0
            have zY7_ap := blk cY7_ap_0
            have zY7_am := blk cY7_am_0
            have zY7_ax := blk cY7_ax_0
            clear cY6_ag_0 cY6_ag_1 cY6_at_0 cY6_ap_0 cY6_ap_1 cY6_am_0 cY6_am_1 cY6_ax_0 cY6_ax_1
            go_wp2_with fail
            refine (toTree_any _ _ t _ (Rd.gr HT.out ((GWY7).trans (by repeat (first | exact Gr.refl _ | apply Gr.ext | apply Gr.alloc | apply Gr.drew)))) wtt).mono ?_
            rintro e Y8 ⟨dsx1, fx1, rfl, sx1, frx1, gY8⟩
            obtain ⟨ax1q0, lx1q0, cx1q0, rfl⟩ := rdTree_shape sx1
            have F_x1 : Hid (fx1.Nodup ∧ ∀ b ∈ fx1, Y7.heap.size + 1 ≤ b) := Lib.hid ⟨frx1.1, fun b hb => by have h := frx1.2 b hb; (try simp at h); omega⟩
            have L_x1 := Lib.hid (Rd.lt sx1)
            have ZW0x1 : w.heap.size ≤ Y7.heap.size := Gr.size GWY7
            have rY8_x1 := Lib.hid sx1
            clear sx1 frx1
            have GY8 : Gr Y7 Y8 := ((by repeat (first | exact Gr.refl _ | apply Gr.ext | apply Gr.alloc | apply Gr.drew)) : Gr Y7 (Y7.alloc (.cells #[.slice ax0q0 lx0q0 cx0q0, .slice ax0q1 lx0q1 cx0q1] 43))).trans gY8
            have GWY8 : Gr w Y8 := GWY7.trans GY8
            have ZY8 : Y7.heap.size ≤ Y8.heap.size := GY8.size
            have cY8_ag_0 : Y8.cell? ⟨w.heap.size, 0, none⟩ = some (.slice gaq0 glq0 gcq0) := GY8.keep cY7_ag_0
            have cY8_ag_1 : Y8.cell? ⟨w.heap.size, 1, none⟩ = some (.slice gaq1 glq1 gcq1) := GY8.keep cY7_ag_1
            have cY8_at_0 : Y8.cell? ⟨w.heap.size + 1, 0, none⟩ = some (.slice taq0 tlq0 tcq0) := GY8.keep cY7_at_0
            have cY8_ap_0 : Y8.cell? ⟨w.heap.size + 1 + 1, 0, none⟩ = some (.slice paq0 plq0 pcq0) := GY8.keep cY7_ap_0
            have cY8_ap_1 : Y8.cell? ⟨w.heap.size + 1 + 1, 1, none⟩ = some (.slice paq1 plq1 pcq1) := GY8.keep cY7_ap_1
            have cY8_am_0 : Y8.cell? ⟨w.heap.size + 1 + 1 + 1, 0, none⟩ = some (.slice maq0 mlq0 mcq0) := GY8.keep cY7_am_0
            have cY8_am_1 : Y8.cell? ⟨w.heap.size + 1 + 1 + 1, 1, none⟩ = some (.slice maq1 mlq1 mcq1) := GY8.keep cY7_am_1
            have cY8_ax_0 : Y8.cell? ⟨w.heap.size + 1 + 1 + 1 + 1, 0, none⟩ = some (.int .i64 xaq0) := GY8.keep cY7_ax_0
            have cY8_ax_1 : Y8.cell? ⟨w.heap.size + 1 + 1 + 1 + 1, 1, none⟩ = some (.string xaq1) := GY8.keep cY7_ax_1
            have cY8_x0_0 : Y8.cell? ⟨Y7.heap.size, 0, none⟩ = some (.slice ax0q0 lx0q0 cx0q0) := (((by repeat (first | exact Gr.refl _ | apply Gr.ext | apply Gr.alloc | apply Gr.drew)) : Gr (Y7.alloc (.cells #[.slice ax0q0 lx0q0 cx0q0, .slice ax0q1 lx0q1 cx0q1] 43)) (Y7.alloc (.cells #[.slice ax0q0 lx0q0 cx0q0, .slice ax0q1 lx0q1 cx0q1] 43))).trans gY8).keep (box_cell (A := _) (by simp) rfl : ((Y7.alloc (.cells #[.slice ax0q0 lx0q0 cx0q0, .slice ax0q1 lx0q1 cx0q1] 43))).cell? ⟨Y7.heap.size, 0, none⟩ = some (.slice ax0q0 lx0q0 cx0q0))
            have cY8_x0_1 : Y8.cell? ⟨Y7.heap.size, 1, none⟩ = some (.slice ax0q1 lx0q1 cx0q1) := (((by repeat (first | exact Gr.refl _ | apply Gr.ext | apply Gr.alloc | apply Gr.drew)) : Gr (Y7.alloc (.cells #[.slice ax0q0 lx0q0 cx0q0, .slice ax0q1 lx0q1 cx0q1] 43)) (Y7.alloc (.cells #[.slice ax0q0 lx0q0 cx0q0, .slice ax0q1 lx0q1 cx0q1] 43))).trans gY8).keep (box_cell (A := _) (by simp) rfl : ((Y7.alloc (.cells #[.slice ax0q0 lx0q0 cx0q0, .slice ax0q1 lx0q1 cx0q1] 43))).cell? ⟨Y7.heap.size, 1, none⟩ = some (.slice ax0q1 lx0q1 cx0q1))
            have zY8_ag := blk cY8_ag_0
            have zY8_at := blk cY8_at_0
            have zY8_ap := blk cY8_ap_0
            have zY8_am := blk cY8_am_0
            have zY8_ax := blk cY8_ax_0
            have zY8_x0 := blk cY8_x0_0
            have rY8_x0 := Lib.hid (Rd.gr rY7_x0.out GY8)
            clear cY7_ag_0 cY7_ag_1 cY7_at_0 cY7_ap_0 cY7_ap_1 cY7_am_0 cY7_am_1 cY7_ax_0 cY7_ax_1
            go_wp2_with fail
            refine (toMemo_any _ _ p _ (Rd.gr HP.out ((GWY8).trans (by repeat (first | exact Gr.refl _ | apply Gr.ext | apply Gr.alloc | apply Gr.drew)))) wtp).mono ?_
            rintro e Y9 ⟨dsx2, fx2, rfl, sx2, frx2, gY9⟩
            obtain ⟨ax2q0, lx2q0, cx2q0, ax2q1, lx2q1, cx2q1, rfl⟩ := rdMemo_shape sx2
            have F_x2 : Hid (fx2.Nodup ∧ ∀ b ∈ fx2, Y8.heap.size + 1 ≤ b) := Lib.hid ⟨frx2.1, fun b hb => by have h := frx2.2 b hb; (try simp at h); omega⟩
            have L_x2 := Lib.hid (Rd.lt sx2)
            have ZW0x2 : w.heap.size ≤ Y8.heap.size := Gr.size GWY8
            have rY9_x2 := Lib.hid sx2
            clear sx2 frx2
            have GY9 : Gr Y8 Y9 := ((by repeat (first | exact Gr.refl _ | apply Gr.ext | apply Gr.alloc | apply Gr.drew)) : Gr Y8 (Y8.alloc (.cells #[.slice ax1q0 lx1q0 cx1q0] 47))).trans gY9
            have GWY9 : Gr w Y9 := GWY8.trans GY9
            have ZY9 : Y8.heap.size ≤ Y9.heap.size := GY9.size
            have cY9_ag_0 : Y9.cell? ⟨w.heap.size, 0, none⟩ = some (.slice gaq0 glq0 gcq0) := GY9.keep cY8_ag_0
            have cY9_ag_1 : Y9.cell? ⟨w.heap.size, 1, none⟩ = some (.slice gaq1 glq1 gcq1) := GY9.keep cY8_ag_1
            have cY9_at_0 : Y9.cell? ⟨w.heap.size + 1, 0, none⟩ = some (.slice taq0 tlq0 tcq0) := GY9.keep cY8_at_0
            have cY9_ap_0 : Y9.cell? ⟨w.heap.size + 1 + 1, 0, none⟩ = some (.slice paq0 plq0 pcq0) := GY9.keep cY8_ap_0
            have cY9_ap_1 : Y9.cell? ⟨w.heap.size + 1 + 1, 1, none⟩ = some (.slice paq1 plq1 pcq1) := GY9.keep cY8_ap_1
            have cY9_am_0 : Y9.cell? ⟨w.heap.size + 1 + 1 + 1, 0, none⟩ = some (.slice maq0 mlq0 mcq0) := GY9.keep cY8_am_0
            have cY9_am_1 : Y9.cell? ⟨w.heap.size + 1 + 1 + 1, 1, none⟩ = some (.slice maq1 mlq1 mcq1) := GY9.keep cY8_am_1
            have cY9_ax_0 : Y9.cell? ⟨w.heap.size + 1 + 1 + 1 + 1, 0, none⟩ = some (.int .i64 xaq0) := GY9.keep cY8_ax_0
            have cY9_ax_1 : Y9.cell? ⟨w.heap.size + 1 + 1 + 1 + 1, 1, none⟩ = some (.string xaq1) := GY9.keep cY8_ax_1
            have cY9_x0_0 : Y9.cell? ⟨Y7.heap.size, 0, none⟩ = some (.slice ax0q0 lx0q0 cx0q0) := GY9.keep cY8_x0_0
            have cY9_x0_1 : Y9.cell? ⟨Y7.heap.size, 1, none⟩ = some (.slice ax0q1 lx0q1 cx0q1) := GY9.keep cY8_x0_1
            have cY9_x1_0 : Y9.cell? ⟨Y8.heap.size, 0, none⟩ = some (.slice ax1q0 lx1q0 cx1q0) := (((by repeat (first | exact Gr.refl _ | apply Gr.ext | apply Gr.alloc | apply Gr.drew)) : Gr (Y8.alloc (.cells #[.slice ax1q0 lx1q0 cx1q0] 47)) (Y8.alloc (.cells #[.slice ax1q0 lx1q0 cx1q0] 47))).trans gY9).keep (box_cell (A := _) (by simp) rfl : ((Y8.alloc (.cells #[.slice ax1q0 lx1q0 cx1q0] 47))).cell? ⟨Y8.heap.size, 0, none⟩ = some (.slice ax1q0 lx1q0 cx1q0))
            have zY9_ag := blk cY9_ag_0
            have zY9_at := blk cY9_at_0
            have zY9_ap := blk cY9_ap_0
            have zY9_am := blk cY9_am_0
            have zY9_ax := blk cY9_ax_0
            have zY9_x0 := blk cY9_x0_0
            have zY9_x1 := blk cY9_x1_0
            have rY9_x0 := Lib.hid (Rd.gr rY8_x0.out GY9)
            have rY9_x1 := Lib.hid (Rd.gr rY8_x1.out GY9)
            clear cY8_ag_0 cY8_ag_1 cY8_at_0 cY8_ap_0 cY8_ap_1 cY8_am_0 cY8_am_1 cY8_ax_0 cY8_ax_1 cY8_x0_0 cY8_x0_1
            go_wp2_with fail
            refine (toMemo_any _ _ m _ (Rd.gr HM.out ((GWY9).trans (by repeat (first | exact Gr.refl _ | apply Gr.ext | apply Gr.alloc | apply Gr.drew)))) wtm).mono ?_
            rintro e Y10 ⟨dsx3, fx3, rfl, sx3, frx3, gY10⟩
            obtain ⟨ax3q0, lx3q0, cx3q0, ax3q1, lx3q1, cx3q1, rfl⟩ := rdMemo_shape sx3
            have F_x3 : Hid (fx3.Nodup ∧ ∀ b ∈ fx3, Y9.heap.size + 1 ≤ b) := Lib.hid ⟨frx3.1, fun b hb => by have h := frx3.2 b hb; (try simp at h); omega⟩
            have L_x3 := Lib.hid (Rd.lt sx3)
            have ZW0x3 : w.heap.size ≤ Y9.heap.size := Gr.size GWY9
            have rY10_x3 := Lib.hid sx3
            clear sx3 frx3
            have GY10 : Gr Y9 Y10 := ((by repeat (first | exact Gr.refl _ | apply Gr.ext | apply Gr.alloc | apply Gr.drew)) : Gr Y9 (Y9.alloc (.cells #[.slice ax2q0 lx2q0 cx2q0, .slice ax2q1 lx2q1 cx2q1] 66))).trans gY10
            have GWY10 : Gr w Y10 := GWY9.trans GY10
            have ZY10 : Y9.heap.size ≤ Y10.heap.size := GY10.size
            have cY10_ag_0 : Y10.cell? ⟨w.heap.size, 0, none⟩ = some (.slice gaq0 glq0 gcq0) := GY10.keep cY9_ag_0
            have cY10_ag_1 : Y10.cell? ⟨w.heap.size, 1, none⟩ = some (.slice gaq1 glq1 gcq1) := GY10.keep cY9_ag_1
            have cY10_at_0 : Y10.cell? ⟨w.heap.size + 1, 0, none⟩ = some (.slice taq0 tlq0 tcq0) := GY10.keep cY9_at_0
            have cY10_ap_0 : Y10.cell? ⟨w.heap.size + 1 + 1, 0, none⟩ = some (.slice paq0 plq0 pcq0) := GY10.keep cY9_ap_0
            have cY10_ap_1 : Y10.cell? ⟨w.heap.size + 1 + 1, 1, none⟩ = some (.slice paq1 plq1 pcq1) := GY10.keep cY9_ap_1
            have cY10_am_0 : Y10.cell? ⟨w.heap.size + 1 + 1 + 1, 0, none⟩ = some (.slice maq0 mlq0 mcq0) := GY10.keep cY9_am_0
            have cY10_am_1 : Y10.cell? ⟨w.heap.size + 1 + 1 + 1, 1, none⟩ = some (.slice maq1 mlq1 mcq1) := GY10.keep cY9_am_1
            have cY10_ax_0 : Y10.cell? ⟨w.heap.size + 1 + 1 + 1 + 1, 0, none⟩ = some (.int .i64 xaq0) := GY10.keep cY9_ax_0
            have cY10_ax_1 : Y10.cell? ⟨w.heap.size + 1 + 1 + 1 + 1, 1, none⟩ = some (.string xaq1) := GY10.keep cY9_ax_1
            have cY10_x0_0 : Y10.cell? ⟨Y7.heap.size, 0, none⟩ = some (.slice ax0q0 lx0q0 cx0q0) := GY10.keep cY9_x0_0
            have cY10_x0_1 : Y10.cell? ⟨Y7.heap.size, 1, none⟩ = some (.slice ax0q1 lx0q1 cx0q1) := GY10.keep cY9_x0_1
            have cY10_x1_0 : Y10.cell? ⟨Y8.heap.size, 0, none⟩ = some (.slice ax1q0 lx1q0 cx1q0) := GY10.keep cY9_x1_0
            have cY10_x2_0 : Y10.cell? ⟨Y9.heap.size, 0, none⟩ = some (.slice ax2q0 lx2q0 cx2q0) := (((by repeat (first | exact Gr.refl _ | apply Gr.ext | apply Gr.alloc | apply Gr.drew)) : Gr (Y9.alloc (.cells #[.slice ax2q0 lx2q0 cx2q0, .slice ax2q1 lx2q1 cx2q1] 66)) (Y9.alloc (.cells #[.slice ax2q0 lx2q0 cx2q0, .slice ax2q1 lx2q1 cx2q1] 66))).trans gY10).keep (box_cell (A := _) (by simp) rfl : ((Y9.alloc (.cells #[.slice ax2q0 lx2q0 cx2q0, .slice ax2q1 lx2q1 cx2q1] 66))).cell? ⟨Y9.heap.size, 0, none⟩ = some (.slice ax2q0 lx2q0 cx2q0))
            have cY10_x2_1 : Y10.cell? ⟨Y9.heap.size, 1, none⟩ = some (.slice ax2q1 lx2q1 cx2q1) := (((by repeat (first | exact Gr.refl _ | apply Gr.ext | apply Gr.alloc | apply Gr.drew)) : Gr (Y9.alloc (.cells #[.slice ax2q0 lx2q0 cx2q0, .slice ax2q1 lx2q1 cx2q1] 66)) (Y9.alloc (.cells #[.slice ax2q0 lx2q0 cx2q0, .slice ax2q1 lx2q1 cx2q1] 66))).trans gY10).keep (box_cell (A := _) (by simp) rfl : ((Y9.alloc (.cells #[.slice ax2q0 lx2q0 cx2q0, .slice ax2q1 lx2q1 cx2q1] 66))).cell? ⟨Y9.heap.size, 1, none⟩ = some (.slice ax2q1 lx2q1 cx2q1))
            have zY10_ag := blk cY10_ag_0
            have zY10_at := blk cY10_at_0
            have zY10_ap := blk cY10_ap_0
            have zY10_am := blk cY10_am_0
            have zY10_ax := blk cY10_ax_0
            have zY10_x0 := blk cY10_x0_0
            have zY10_x1 := blk cY10_x1_0
            have zY10_x2 := blk cY10_x2_0
            have rY10_x0 := Lib.hid (Rd.gr rY9_x0.out GY10)
            have rY10_x1 := Lib.hid (Rd.gr rY9_x1.out GY10)
            have rY10_x2 := Lib.hid (Rd.gr rY9_x2.out GY10)
            clear cY9_ag_0 cY9_ag_1 cY9_at_0 cY9_ap_0 cY9_ap_1 cY9_am_0 cY9_am_1 cY9_ax_0 cY9_ax_1 cY9_x0_0 cY9_x0_1 cY9_x1_0
            go_wp2_with fail
            generalize hWY11 : (Y10.alloc (.cells #[.slice ax3q0 lx3q0 cx3q0, .slice ax3q1 lx3q1 cx3q1] 66)) = Y11
            have gY11 : Gr (Y10.alloc (.cells #[.slice ax3q0 lx3q0 cx3q0, .slice ax3q1 lx3q1 cx3q1] 66)) Y11 := by rw [hWY11]; exact Gr.refl _
            clear hWY11
            have GY11 : Gr Y10 Y11 := ((by repeat (first | exact Gr.refl _ | apply Gr.ext | apply Gr.alloc | apply Gr.drew)) : Gr Y10 (Y10.alloc (.cells #[.slice ax3q0 lx3q0 cx3q0, .slice ax3q1 lx3q1 cx3q1] 66))).trans gY11
            have GWY11 : Gr w Y11 := GWY10.trans GY11
            have ZY11 : Y10.heap.size ≤ Y11.heap.size := GY11.size
            have cY11_ag_0 : Y11.cell? ⟨w.heap.size, 0, none⟩ = some (.slice gaq0 glq0 gcq0) := GY11.keep cY10_ag_0
            have cY11_ag_1 : Y11.cell? ⟨w.heap.size, 1, none⟩ = some (.slice gaq1 glq1 gcq1) := GY11.keep cY10_ag_1
            have cY11_at_0 : Y11.cell? ⟨w.heap.size + 1, 0, none⟩ = some (.slice taq0 tlq0 tcq0) := GY11.keep cY10_at_0
            have cY11_ap_0 : Y11.cell? ⟨w.heap.size + 1 + 1, 0, none⟩ = some (.slice paq0 plq0 pcq0) := GY11.keep cY10_ap_0
            have cY11_ap_1 : Y11.cell? ⟨w.heap.size + 1 + 1, 1, none⟩ = some (.slice paq1 plq1 pcq1) := GY11.keep cY10_ap_1
            have cY11_am_0 : Y11.cell? ⟨w.heap.size + 1 + 1 + 1, 0, none⟩ = some (.slice maq0 mlq0 mcq0) := GY11.keep cY10_am_0
            have cY11_am_1 : Y11.cell? ⟨w.heap.size + 1 + 1 + 1, 1, none⟩ = some (.slice maq1 mlq1 mcq1) := GY11.keep cY10_am_1
            have cY11_ax_0 : Y11.cell? ⟨w.heap.size + 1 + 1 + 1 + 1, 0, none⟩ = some (.int .i64 xaq0) := GY11.keep cY10_ax_0
            have cY11_ax_1 : Y11.cell? ⟨w.heap.size + 1 + 1 + 1 + 1, 1, none⟩ = some (.string xaq1) := GY11.keep cY10_ax_1
            have cY11_x0_0 : Y11.cell? ⟨Y7.heap.size, 0, none⟩ = some (.slice ax0q0 lx0q0 cx0q0) := GY11.keep cY10_x0_0
            have cY11_x0_1 : Y11.cell? ⟨Y7.heap.size, 1, none⟩ = some (.slice ax0q1 lx0q1 cx0q1) := GY11.keep cY10_x0_1
            have cY11_x1_0 : Y11.cell? ⟨Y8.heap.size, 0, none⟩ = some (.slice ax1q0 lx1q0 cx1q0) := GY11.keep cY10_x1_0
            have cY11_x2_0 : Y11.cell? ⟨Y9.heap.size, 0, none⟩ = some (.slice ax2q0 lx2q0 cx2q0) := GY11.keep cY10_x2_0
            have cY11_x2_1 : Y11.cell? ⟨Y9.heap.size, 1, none⟩ = some (.slice ax2q1 lx2q1 cx2q1) := GY11.keep cY10_x2_1
            have cY11_x3_0 : Y11.cell? ⟨Y10.heap.size, 0, none⟩ = some (.slice ax3q0 lx3q0 cx3q0) := (((by repeat (first | exact Gr.refl _ | apply Gr.ext | apply Gr.alloc | apply Gr.drew)) : Gr (Y10.alloc (.cells #[.slice ax3q0 lx3q0 cx3q0, .slice ax3q1 lx3q1 cx3q1] 66)) (Y10.alloc (.cells #[.slice ax3q0 lx3q0 cx3q0, .slice ax3q1 lx3q1 cx3q1] 66))).trans gY11).keep (box_cell (A := _) (by simp) rfl : ((Y10.alloc (.cells #[.slice ax3q0 lx3q0 cx3q0, .slice ax3q1 lx3q1 cx3q1] 66))).cell? ⟨Y10.heap.size, 0, none⟩ = some (.slice ax3q0 lx3q0 cx3q0))
            have cY11_x3_1 : Y11.cell? ⟨Y10.heap.size, 1, none⟩ = some (.slice ax3q1 lx3q1 cx3q1) := (((by repeat (first | exact Gr.refl _ | apply Gr.ext | apply Gr.alloc | apply Gr.drew)) : Gr (Y10.alloc (.cells #[.slice ax3q0 lx3q0 cx3q0, .slice ax3q1 lx3q1 cx3q1] 66)) (Y10.alloc (.cells #[.slice ax3q0 lx3q0 cx3q0, .slice ax3q1 lx3q1 cx3q1] 66))).trans gY11).keep (box_cell (A := _) (by simp) rfl : ((Y10.alloc (.cells #[.slice ax3q0 lx3q0 cx3q0, .slice ax3q1 lx3q1 cx3q1] 66))).cell? ⟨Y10.heap.size, 1, none⟩ = some (.slice ax3q1 lx3q1 cx3q1))
            have zY11_ag := blk cY11_ag_0
            have zY11_at := blk cY11_at_0
            have zY11_ap := blk cY11_ap_0
            have zY11_am := blk cY11_am_0
            have zY11_ax := blk cY11_ax_0
            have zY11_x0 := blk cY11_x0_0
            have zY11_x1 := blk cY11_x1_0
            have zY11_x2 := blk cY11_x2_0
            have zY11_x3 := blk cY11_x3_0
            have rY11_x0 := Lib.hid (Rd.gr rY10_x0.out GY11)
            have rY11_x1 := Lib.hid (Rd.gr rY10_x1.out GY11)
            have rY11_x2 := Lib.hid (Rd.gr rY10_x2.out GY11)
            have rY11_x3 := Lib.hid (Rd.gr rY10_x3.out GY11)
            clear cY10_ag_0 cY10_ag_1 cY10_at_0 cY10_ap_0 cY10_ap_1 cY10_am_0 cY10_am_1 cY10_ax_0 cY10_ax_1 cY10_x0_0 cY10_x0_1 cY10_x1_0 cY10_x2_0 cY10_x2_1
            have kcY11_ag_0 : ∀ w' : World, Gr Y11 w' → w'.cell? ⟨w.heap.size, 0, none⟩ = some (.slice gaq0 glq0 gcq0) := fun w' h => h.keep cY11_ag_0
            have kcY11_ag_1 : ∀ w' : World, Gr Y11 w' → w'.cell? ⟨w.heap.size, 1, none⟩ = some (.slice gaq1 glq1 gcq1) := fun w' h => h.keep cY11_ag_1
            have kcY11_at_0 : ∀ w' : World, Gr Y11 w' → w'.cell? ⟨w.heap.size + 1, 0, none⟩ = some (.slice taq0 tlq0 tcq0) := fun w' h => h.keep cY11_at_0
            have kcY11_ap_0 : ∀ w' : World, Gr Y11 w' → w'.cell? ⟨w.heap.size + 1 + 1, 0, none⟩ = some (.slice paq0 plq0 pcq0) := fun w' h => h.keep cY11_ap_0
            have kcY11_ap_1 : ∀ w' : World, Gr Y11 w' → w'.cell? ⟨w.heap.size + 1 + 1, 1, none⟩ = some (.slice paq1 plq1 pcq1) := fun w' h => h.keep cY11_ap_1
            have kcY11_am_0 : ∀ w' : World, Gr Y11 w' → w'.cell? ⟨w.heap.size + 1 + 1 + 1, 0, none⟩ = some (.slice maq0 mlq0 mcq0) := fun w' h => h.keep cY11_am_0
            have kcY11_am_1 : ∀ w' : World, Gr Y11 w' → w'.cell? ⟨w.heap.size + 1 + 1 + 1, 1, none⟩ = some (.slice maq1 mlq1 mcq1) := fun w' h => h.keep cY11_am_1
            have kcY11_ax_0 : ∀ w' : World, Gr Y11 w' → w'.cell? ⟨w.heap.size + 1 + 1 + 1 + 1, 0, none⟩ = some (.int .i64 xaq0) := fun w' h => h.keep cY11_ax_0
            have kcY11_ax_1 : ∀ w' : World, Gr Y11 w' → w'.cell? ⟨w.heap.size + 1 + 1 + 1 + 1, 1, none⟩ = some (.string xaq1) := fun w' h => h.keep cY11_ax_1
            have kcY11_x0_0 : ∀ w' : World, Gr Y11 w' → w'.cell? ⟨Y7.heap.size, 0, none⟩ = some (.slice ax0q0 lx0q0 cx0q0) := fun w' h => h.keep cY11_x0_0
            have kcY11_x0_1 : ∀ w' : World, Gr Y11 w' → w'.cell? ⟨Y7.heap.size, 1, none⟩ = some (.slice ax0q1 lx0q1 cx0q1) := fun w' h => h.keep cY11_x0_1
            have kcY11_x1_0 : ∀ w' : World, Gr Y11 w' → w'.cell? ⟨Y8.heap.size, 0, none⟩ = some (.slice ax1q0 lx1q0 cx1q0) := fun w' h => h.keep cY11_x1_0
            have kcY11_x2_0 : ∀ w' : World, Gr Y11 w' → w'.cell? ⟨Y9.heap.size, 0, none⟩ = some (.slice ax2q0 lx2q0 cx2q0) := fun w' h => h.keep cY11_x2_0
            have kcY11_x2_1 : ∀ w' : World, Gr Y11 w' → w'.cell? ⟨Y9.heap.size, 1, none⟩ = some (.slice ax2q1 lx2q1 cx2q1) := fun w' h => h.keep cY11_x2_1
            have kcY11_x3_0 : ∀ w' : World, Gr Y11 w' → w'.cell? ⟨Y10.heap.size, 0, none⟩ = some (.slice ax3q0 lx3q0 cx3q0) := fun w' h => h.keep cY11_x3_0
            have kcY11_x3_1 : ∀ w' : World, Gr Y11 w' → w'.cell? ⟨Y10.heap.size, 1, none⟩ = some (.slice ax3q1 lx3q1 cx3q1) := fun w' h => h.keep cY11_x3_1
            go_region_held3 (fun w' => Gr Y11 w') (first | assumption | exact Gr.drew (Gr.refl _) | exact Gr.ext (by assumption) _)
              (first
                | ((go_at_call 12; refine (toInstance_any _ _ x _ (Rd.gr HX.out (GWY11.trans (by first | assumption | exact (by repeat (first | exact Gr.refl _ | apply Gr.ext | apply Gr.alloc | apply Gr.drew)))))).mono ?_; rintro e w' ⟨rfl, ei4, rfl⟩))
                | ((go_at_call 24; refine (implJust_any g t p m x _ (Rd.gr rY11_x0.out (by first | assumption | exact (by repeat (first | exact Gr.refl _ | apply Gr.ext | apply Gr.alloc | apply Gr.drew)))) (Rd.gr rY11_x1.out (by first | assumption | exact (by repeat (first | exact Gr.refl _ | apply Gr.ext | apply Gr.alloc | apply Gr.drew)))) (Rd.gr rY11_x2.out (by first | assumption | exact (by repeat (first | exact Gr.refl _ | apply Gr.ext | apply Gr.alloc | apply Gr.drew)))) (Rd.gr rY11_x3.out (by first | assumption | exact (by repeat (first | exact Gr.refl _ | apply Gr.ext | apply Gr.alloc | apply Gr.drew)))) (Rd.gr HX.out (GWY11.trans (by first | assumption | exact (by repeat (first | exact Gr.refl _ | apply Gr.ext | apply Gr.alloc | apply Gr.drew))))) wtg wtt).mono ?_; rintro e w' ⟨rfl, eiz, rfl⟩)))
            have hY12 : Gr Y11 ((Y11.drew.ext ei4).ext eiz) := by assumption
            generalize ((Y11.drew.ext ei4).ext eiz) = Y12 at hY12 ⊢
            clear kcY11_ag_0 kcY11_ag_1 kcY11_at_0 kcY11_ap_0 kcY11_ap_1 kcY11_am_0 kcY11_am_1 kcY11_ax_0 kcY11_ax_1 kcY11_x0_0 kcY11_x0_1 kcY11_x1_0 kcY11_x2_0 kcY11_x2_1 kcY11_x3_0 kcY11_x3_1
            have GY12 : Gr Y11 Y12 := ((by repeat (first | exact Gr.refl _ | apply Gr.ext | apply Gr.alloc | apply Gr.drew)) : Gr Y11 Y11).trans hY12
            have GWY12 : Gr w Y12 := GWY11.trans GY12
            have ZY12 : Y11.heap.size ≤ Y12.heap.size := GY12.size
            have cY12_ag_0 : Y12.cell? ⟨w.heap.size, 0, none⟩ = some (.slice gaq0 glq0 gcq0) := GY12.keep cY11_ag_0
            have cY12_ag_1 : Y12.cell? ⟨w.heap.size, 1, none⟩ = some (.slice gaq1 glq1 gcq1) := GY12.keep cY11_ag_1
            have cY12_at_0 : Y12.cell? ⟨w.heap.size + 1, 0, none⟩ = some (.slice taq0 tlq0 tcq0) := GY12.keep cY11_at_0
            have cY12_ap_0 : Y12.cell? ⟨w.heap.size + 1 + 1, 0, none⟩ = some (.slice paq0 plq0 pcq0) := GY12.keep cY11_ap_0
            have cY12_ap_1 : Y12.cell? ⟨w.heap.size + 1 + 1, 1, none⟩ = some (.slice paq1 plq1 pcq1) := GY12.keep cY11_ap_1
            have cY12_am_0 : Y12.cell? ⟨w.heap.size + 1 + 1 + 1, 0, none⟩ = some (.slice maq0 mlq0 mcq0) := GY12.keep cY11_am_0
            have cY12_am_1 : Y12.cell? ⟨w.heap.size + 1 + 1 + 1, 1, none⟩ = some (.slice maq1 mlq1 mcq1) := GY12.keep cY11_am_1
            have cY12_ax_0 : Y12.cell? ⟨w.heap.size + 1 + 1 + 1 + 1, 0, none⟩ = some (.int .i64 xaq0) := GY12.keep cY11_ax_0
            have cY12_ax_1 : Y12.cell? ⟨w.heap.size + 1 + 1 + 1 + 1, 1, none⟩ = some (.string xaq1) := GY12.keep cY11_ax_1
            have cY12_x0_0 : Y12.cell? ⟨Y7.heap.size, 0, none⟩ = some (.slice ax0q0 lx0q0 cx0q0) := GY12.keep cY11_x0_0
            have cY12_x0_1 : Y12.cell? ⟨Y7.heap.size, 1, none⟩ = some (.slice ax0q1 lx0q1 cx0q1) := GY12.keep cY11_x0_1
            have cY12_x1_0 : Y12.cell? ⟨Y8.heap.size, 0, none⟩ = some (.slice ax1q0 lx1q0 cx1q0) := GY12.keep cY11_x1_0
            have cY12_x2_0 : Y12.cell? ⟨Y9.heap.size, 0, none⟩ = some (.slice ax2q0 lx2q0 cx2q0) := GY12.keep cY11_x2_0
            have cY12_x2_1 : Y12.cell? ⟨Y9.heap.size, 1, none⟩ = some (.slice ax2q1 lx2q1 cx2q1) := GY12.keep cY11_x2_1
            have cY12_x3_0 : Y12.cell? ⟨Y10.heap.size, 0, none⟩ = some (.slice ax3q0 lx3q0 cx3q0) := GY12.keep cY11_x3_0
            have cY12_x3_1 : Y12.cell? ⟨Y10.heap.size, 1, none⟩ = some (.slice ax3q1 lx3q1 cx3q1) := GY12.keep cY11_x3_1
            have zY12_ag := blk cY12_ag_0
            have zY12_at := blk cY12_at_0
            have zY12_ap := blk cY12_ap_0
            have zY12_am := blk cY12_am_0
            have zY12_ax := blk cY12_ax_0
            have zY12_x0 := blk cY12_x0_0
            have zY12_x1 := blk cY12_x1_0
            have zY12_x2 := blk cY12_x2_0
            have zY12_x3 := blk cY12_x3_0
            have rY12_x0 := Lib.hid (Rd.gr rY11_x0.out GY12)
            have rY12_x1 := Lib.hid (Rd.gr rY11_x1.out GY12)
            have rY12_x2 := Lib.hid (Rd.gr rY11_x2.out GY12)
            have rY12_x3 := Lib.hid (Rd.gr rY11_x3.out GY12)
            clear cY11_ag_0 cY11_ag_1 cY11_at_0 cY11_ap_0 cY11_ap_1 cY11_am_0 cY11_am_1 cY11_ax_0 cY11_ax_1 cY11_x0_0 cY11_x0_1 cY11_x1_0 cY11_x2_0 cY11_x2_1 cY11_x3_0 cY11_x3_1
            go_wp2_with fail
            have kcY12_ag_0 : ∀ w' : World, Gr Y12 w' → w'.cell? ⟨w.heap.size, 0, none⟩ = some (.slice gaq0 glq0 gcq0) := fun w' h => h.keep cY12_ag_0
            have kcY12_ag_1 : ∀ w' : World, Gr Y12 w' → w'.cell? ⟨w.heap.size, 1, none⟩ = some (.slice gaq1 glq1 gcq1) := fun w' h => h.keep cY12_ag_1
            have kcY12_at_0 : ∀ w' : World, Gr Y12 w' → w'.cell? ⟨w.heap.size + 1, 0, none⟩ = some (.slice taq0 tlq0 tcq0) := fun w' h => h.keep cY12_at_0
            have kcY12_ap_0 : ∀ w' : World, Gr Y12 w' → w'.cell? ⟨w.heap.size + 1 + 1, 0, none⟩ = some (.slice paq0 plq0 pcq0) := fun w' h => h.keep cY12_ap_0
            have kcY12_ap_1 : ∀ w' : World, Gr Y12 w' → w'.cell? ⟨w.heap.size + 1 + 1, 1, none⟩ = some (.slice paq1 plq1 pcq1) := fun w' h => h.keep cY12_ap_1
            have kcY12_am_0 : ∀ w' : World, Gr Y12 w' → w'.cell? ⟨w.heap.size + 1 + 1 + 1, 0, none⟩ = some (.slice maq0 mlq0 mcq0) := fun w' h => h.keep cY12_am_0
            have kcY12_am_1 : ∀ w' : World, Gr Y12 w' → w'.cell? ⟨w.heap.size + 1 + 1 + 1, 1, none⟩ = some (.slice maq1 mlq1 mcq1) := fun w' h => h.keep cY12_am_1
            have kcY12_ax_0 : ∀ w' : World, Gr Y12 w' → w'.cell? ⟨w.heap.size + 1 + 1 + 1 + 1, 0, none⟩ = some (.int .i64 xaq0) := fun w' h => h.keep cY12_ax_0
            have kcY12_ax_1 : ∀ w' : World, Gr Y12 w' → w'.cell? ⟨w.heap.size + 1 + 1 + 1 + 1, 1, none⟩ = some (.string xaq1) := fun w' h => h.keep cY12_ax_1
            have kcY12_x0_0 : ∀ w' : World, Gr Y12 w' → w'.cell? ⟨Y7.heap.size, 0, none⟩ = some (.slice ax0q0 lx0q0 cx0q0) := fun w' h => h.keep cY12_x0_0
            have kcY12_x0_1 : ∀ w' : World, Gr Y12 w' → w'.cell? ⟨Y7.heap.size, 1, none⟩ = some (.slice ax0q1 lx0q1 cx0q1) := fun w' h => h.keep cY12_x0_1
            have kcY12_x1_0 : ∀ w' : World, Gr Y12 w' → w'.cell? ⟨Y8.heap.size, 0, none⟩ = some (.slice ax1q0 lx1q0 cx1q0) := fun w' h => h.keep cY12_x1_0
            have kcY12_x2_0 : ∀ w' : World, Gr Y12 w' → w'.cell? ⟨Y9.heap.size, 0, none⟩ = some (.slice ax2q0 lx2q0 cx2q0) := fun w' h => h.keep cY12_x2_0
            have kcY12_x2_1 : ∀ w' : World, Gr Y12 w' → w'.cell? ⟨Y9.heap.size, 1, none⟩ = some (.slice ax2q1 lx2q1 cx2q1) := fun w' h => h.keep cY12_x2_1
            have kcY12_x3_0 : ∀ w' : World, Gr Y12 w' → w'.cell? ⟨Y10.heap.size, 0, none⟩ = some (.slice ax3q0 lx3q0 cx3q0) := fun w' h => h.keep cY12_x3_0
            have kcY12_x3_1 : ∀ w' : World, Gr Y12 w' → w'.cell? ⟨Y10.heap.size, 1, none⟩ = some (.slice ax3q1 lx3q1 cx3q1) := fun w' h => h.keep cY12_x3_1
            go_region_held3 (fun w' => Gr Y12 w') (first | assumption | exact Gr.drew (Gr.refl _) | exact Gr.ext (by assumption) _)
              (first
                | ((go_at_call 10; refine (toGrammar_any _ _ g _ (Rd.gr HG.out (GWY12.trans (by assumption))) wtg).mono ?_; rintro e w' ⟨ds5, f5, rfl, s5, fr5, e1, rfl⟩))
                | ((go_at_call 15; refine (eqGrammar_any _ _ _ _ g g _ (Rd.gr rY12_x0.out (by assumption)) s5).mono ?_; rintro e w' ⟨rfl, e2, rfl⟩; rw [decide_eq_true rfl])))
            have hY13 : Gr Y12 ((Y12.drew.ext e1).ext e2) := by assumption
            generalize ((Y12.drew.ext e1).ext e2) = Y13 at hY13 ⊢
            clear kcY12_ag_0 kcY12_ag_1 kcY12_at_0 kcY12_ap_0 kcY12_ap_1 kcY12_am_0 kcY12_am_1 kcY12_ax_0 kcY12_ax_1 kcY12_x0_0 kcY12_x0_1 kcY12_x1_0 kcY12_x2_0 kcY12_x2_1 kcY12_x3_0 kcY12_x3_1
            have GY13 : Gr Y12 Y13 := ((by repeat (first | exact Gr.refl _ | apply Gr.ext | apply Gr.alloc | apply Gr.drew)) : Gr Y12 Y12).trans hY13
            have GWY13 : Gr w Y13 := GWY12.trans GY13
            have ZY13 : Y12.heap.size ≤ Y13.heap.size := GY13.size
            have cY13_ag_0 : Y13.cell? ⟨w.heap.size, 0, none⟩ = some (.slice gaq0 glq0 gcq0) := GY13.keep cY12_ag_0
            have cY13_ag_1 : Y13.cell? ⟨w.heap.size, 1, none⟩ = some (.slice gaq1 glq1 gcq1) := GY13.keep cY12_ag_1
            have cY13_at_0 : Y13.cell? ⟨w.heap.size + 1, 0, none⟩ = some (.slice taq0 tlq0 tcq0) := GY13.keep cY12_at_0
            have cY13_ap_0 : Y13.cell? ⟨w.heap.size + 1 + 1, 0, none⟩ = some (.slice paq0 plq0 pcq0) := GY13.keep cY12_ap_0
            have cY13_ap_1 : Y13.cell? ⟨w.heap.size + 1 + 1, 1, none⟩ = some (.slice paq1 plq1 pcq1) := GY13.keep cY12_ap_1
            have cY13_am_0 : Y13.cell? ⟨w.heap.size + 1 + 1 + 1, 0, none⟩ = some (.slice maq0 mlq0 mcq0) := GY13.keep cY12_am_0
            have cY13_am_1 : Y13.cell? ⟨w.heap.size + 1 + 1 + 1, 1, none⟩ = some (.slice maq1 mlq1 mcq1) := GY13.keep cY12_am_1
            have cY13_ax_0 : Y13.cell? ⟨w.heap.size + 1 + 1 + 1 + 1, 0, none⟩ = some (.int .i64 xaq0) := GY13.keep cY12_ax_0
            have cY13_ax_1 : Y13.cell? ⟨w.heap.size + 1 + 1 + 1 + 1, 1, none⟩ = some (.string xaq1) := GY13.keep cY12_ax_1
            have cY13_x0_0 : Y13.cell? ⟨Y7.heap.size, 0, none⟩ = some (.slice ax0q0 lx0q0 cx0q0) := GY13.keep cY12_x0_0
            have cY13_x0_1 : Y13.cell? ⟨Y7.heap.size, 1, none⟩ = some (.slice ax0q1 lx0q1 cx0q1) := GY13.keep cY12_x0_1
            have cY13_x1_0 : Y13.cell? ⟨Y8.heap.size, 0, none⟩ = some (.slice ax1q0 lx1q0 cx1q0) := GY13.keep cY12_x1_0
            have cY13_x2_0 : Y13.cell? ⟨Y9.heap.size, 0, none⟩ = some (.slice ax2q0 lx2q0 cx2q0) := GY13.keep cY12_x2_0
            have cY13_x2_1 : Y13.cell? ⟨Y9.heap.size, 1, none⟩ = some (.slice ax2q1 lx2q1 cx2q1) := GY13.keep cY12_x2_1
            have cY13_x3_0 : Y13.cell? ⟨Y10.heap.size, 0, none⟩ = some (.slice ax3q0 lx3q0 cx3q0) := GY13.keep cY12_x3_0
            have cY13_x3_1 : Y13.cell? ⟨Y10.heap.size, 1, none⟩ = some (.slice ax3q1 lx3q1 cx3q1) := GY13.keep cY12_x3_1
            have zY13_ag := blk cY13_ag_0
            have zY13_at := blk cY13_at_0
            have zY13_ap := blk cY13_ap_0
            have zY13_am := blk cY13_am_0
            have zY13_ax := blk cY13_ax_0
            have zY13_x0 := blk cY13_x0_0
            have zY13_x1 := blk cY13_x1_0
            have zY13_x2 := blk cY13_x2_0
            have zY13_x3 := blk cY13_x3_0
            have rY13_x0 := Lib.hid (Rd.gr rY12_x0.out GY13)
            have rY13_x1 := Lib.hid (Rd.gr rY12_x1.out GY13)
            have rY13_x2 := Lib.hid (Rd.gr rY12_x2.out GY13)
            have rY13_x3 := Lib.hid (Rd.gr rY12_x3.out GY13)
            clear cY12_ag_0 cY12_ag_1 cY12_at_0 cY12_ap_0 cY12_ap_1 cY12_am_0 cY12_am_1 cY12_ax_0 cY12_ax_1 cY12_x0_0 cY12_x0_1 cY12_x1_0 cY12_x2_0 cY12_x2_1 cY12_x3_0 cY12_x3_1
            clear s5 fr5
            go_wp2_with fail
            have kcY13_ag_0 : ∀ w' : World, Gr Y13 w' → w'.cell? ⟨w.heap.size, 0, none⟩ = some (.slice gaq0 glq0 gcq0) := fun w' h => h.keep cY13_ag_0
            have kcY13_ag_1 : ∀ w' : World, Gr Y13 w' → w'.cell? ⟨w.heap.size, 1, none⟩ = some (.slice gaq1 glq1 gcq1) := fun w' h => h.keep cY13_ag_1
            have kcY13_at_0 : ∀ w' : World, Gr Y13 w' → w'.cell? ⟨w.heap.size + 1, 0, none⟩ = some (.slice taq0 tlq0 tcq0) := fun w' h => h.keep cY13_at_0
            have kcY13_ap_0 : ∀ w' : World, Gr Y13 w' → w'.cell? ⟨w.heap.size + 1 + 1, 0, none⟩ = some (.slice paq0 plq0 pcq0) := fun w' h => h.keep cY13_ap_0
            have kcY13_ap_1 : ∀ w' : World, Gr Y13 w' → w'.cell? ⟨w.heap.size + 1 + 1, 1, none⟩ = some (.slice paq1 plq1 pcq1) := fun w' h => h.keep cY13_ap_1
            have kcY13_am_0 : ∀ w' : World, Gr Y13 w' → w'.cell? ⟨w.heap.size + 1 + 1 + 1, 0, none⟩ = some (.slice maq0 mlq0 mcq0) := fun w' h => h.keep cY13_am_0
            have kcY13_am_1 : ∀ w' : World, Gr Y13 w' → w'.cell? ⟨w.heap.size + 1 + 1 + 1, 1, none⟩ = some (.slice maq1 mlq1 mcq1) := fun w' h => h.keep cY13_am_1
            have kcY13_ax_0 : ∀ w' : World, Gr Y13 w' → w'.cell? ⟨w.heap.size + 1 + 1 + 1 + 1, 0, none⟩ = some (.int .i64 xaq0) := fun w' h => h.keep cY13_ax_0
            have kcY13_ax_1 : ∀ w' : World, Gr Y13 w' → w'.cell? ⟨w.heap.size + 1 + 1 + 1 + 1, 1, none⟩ = some (.string xaq1) := fun w' h => h.keep cY13_ax_1
            have kcY13_x0_0 : ∀ w' : World, Gr Y13 w' → w'.cell? ⟨Y7.heap.size, 0, none⟩ = some (.slice ax0q0 lx0q0 cx0q0) := fun w' h => h.keep cY13_x0_0
            have kcY13_x0_1 : ∀ w' : World, Gr Y13 w' → w'.cell? ⟨Y7.heap.size, 1, none⟩ = some (.slice ax0q1 lx0q1 cx0q1) := fun w' h => h.keep cY13_x0_1
            have kcY13_x1_0 : ∀ w' : World, Gr Y13 w' → w'.cell? ⟨Y8.heap.size, 0, none⟩ = some (.slice ax1q0 lx1q0 cx1q0) := fun w' h => h.keep cY13_x1_0
            have kcY13_x2_0 : ∀ w' : World, Gr Y13 w' → w'.cell? ⟨Y9.heap.size, 0, none⟩ = some (.slice ax2q0 lx2q0 cx2q0) := fun w' h => h.keep cY13_x2_0
            have kcY13_x2_1 : ∀ w' : World, Gr Y13 w' → w'.cell? ⟨Y9.heap.size, 1, none⟩ = some (.slice ax2q1 lx2q1 cx2q1) := fun w' h => h.keep cY13_x2_1
            have kcY13_x3_0 : ∀ w' : World, Gr Y13 w' → w'.cell? ⟨Y10.heap.size, 0, none⟩ = some (.slice ax3q0 lx3q0 cx3q0) := fun w' h => h.keep cY13_x3_0
            have kcY13_x3_1 : ∀ w' : World, Gr Y13 w' → w'.cell? ⟨Y10.heap.size, 1, none⟩ = some (.slice ax3q1 lx3q1 cx3q1) := fun w' h => h.keep cY13_x3_1
            go_region_held3 (fun w' => Gr Y13 w') (first | assumption | exact Gr.drew (Gr.refl _) | exact Gr.ext (by assumption) _)
              (first
                | ((go_at_call 11; refine (toTree_any _ _ t _ (Rd.gr HT.out (GWY13.trans (by assumption))) wtt).mono ?_; rintro e w' ⟨ds5, f5, rfl, s5, fr5, e1, rfl⟩))
                | ((go_at_call 16; refine (eqTree_any _ _ _ _ t t _ (Rd.gr rY13_x1.out (by assumption)) s5).mono ?_; rintro e w' ⟨rfl, e2, rfl⟩; rw [decide_eq_true rfl])))
            have hY14 : Gr Y13 ((Y13.drew.ext e1).ext e2) := by assumption
            generalize ((Y13.drew.ext e1).ext e2) = Y14 at hY14 ⊢
            clear kcY13_ag_0 kcY13_ag_1 kcY13_at_0 kcY13_ap_0 kcY13_ap_1 kcY13_am_0 kcY13_am_1 kcY13_ax_0 kcY13_ax_1 kcY13_x0_0 kcY13_x0_1 kcY13_x1_0 kcY13_x2_0 kcY13_x2_1 kcY13_x3_0 kcY13_x3_1
            have GY14 : Gr Y13 Y14 := ((by repeat (first | exact Gr.refl _ | apply Gr.ext | apply Gr.alloc | apply Gr.drew)) : Gr Y13 Y13).trans hY14
            have GWY14 : Gr w Y14 := GWY13.trans GY14
            have ZY14 : Y13.heap.size ≤ Y14.heap.size := GY14.size
            have cY14_ag_0 : Y14.cell? ⟨w.heap.size, 0, none⟩ = some (.slice gaq0 glq0 gcq0) := GY14.keep cY13_ag_0
            have cY14_ag_1 : Y14.cell? ⟨w.heap.size, 1, none⟩ = some (.slice gaq1 glq1 gcq1) := GY14.keep cY13_ag_1
            have cY14_at_0 : Y14.cell? ⟨w.heap.size + 1, 0, none⟩ = some (.slice taq0 tlq0 tcq0) := GY14.keep cY13_at_0
            have cY14_ap_0 : Y14.cell? ⟨w.heap.size + 1 + 1, 0, none⟩ = some (.slice paq0 plq0 pcq0) := GY14.keep cY13_ap_0
            have cY14_ap_1 : Y14.cell? ⟨w.heap.size + 1 + 1, 1, none⟩ = some (.slice paq1 plq1 pcq1) := GY14.keep cY13_ap_1
            have cY14_am_0 : Y14.cell? ⟨w.heap.size + 1 + 1 + 1, 0, none⟩ = some (.slice maq0 mlq0 mcq0) := GY14.keep cY13_am_0
            have cY14_am_1 : Y14.cell? ⟨w.heap.size + 1 + 1 + 1, 1, none⟩ = some (.slice maq1 mlq1 mcq1) := GY14.keep cY13_am_1
            have cY14_ax_0 : Y14.cell? ⟨w.heap.size + 1 + 1 + 1 + 1, 0, none⟩ = some (.int .i64 xaq0) := GY14.keep cY13_ax_0
            have cY14_ax_1 : Y14.cell? ⟨w.heap.size + 1 + 1 + 1 + 1, 1, none⟩ = some (.string xaq1) := GY14.keep cY13_ax_1
            have cY14_x0_0 : Y14.cell? ⟨Y7.heap.size, 0, none⟩ = some (.slice ax0q0 lx0q0 cx0q0) := GY14.keep cY13_x0_0
            have cY14_x0_1 : Y14.cell? ⟨Y7.heap.size, 1, none⟩ = some (.slice ax0q1 lx0q1 cx0q1) := GY14.keep cY13_x0_1
            have cY14_x1_0 : Y14.cell? ⟨Y8.heap.size, 0, none⟩ = some (.slice ax1q0 lx1q0 cx1q0) := GY14.keep cY13_x1_0
            have cY14_x2_0 : Y14.cell? ⟨Y9.heap.size, 0, none⟩ = some (.slice ax2q0 lx2q0 cx2q0) := GY14.keep cY13_x2_0
            have cY14_x2_1 : Y14.cell? ⟨Y9.heap.size, 1, none⟩ = some (.slice ax2q1 lx2q1 cx2q1) := GY14.keep cY13_x2_1
            have cY14_x3_0 : Y14.cell? ⟨Y10.heap.size, 0, none⟩ = some (.slice ax3q0 lx3q0 cx3q0) := GY14.keep cY13_x3_0
            have cY14_x3_1 : Y14.cell? ⟨Y10.heap.size, 1, none⟩ = some (.slice ax3q1 lx3q1 cx3q1) := GY14.keep cY13_x3_1
            have zY14_ag := blk cY14_ag_0
            have zY14_at := blk cY14_at_0
            have zY14_ap := blk cY14_ap_0
            have zY14_am := blk cY14_am_0
            have zY14_ax := blk cY14_ax_0
            have zY14_x0 := blk cY14_x0_0
            have zY14_x1 := blk cY14_x1_0
            have zY14_x2 := blk cY14_x2_0
            have zY14_x3 := blk cY14_x3_0
            have rY14_x0 := Lib.hid (Rd.gr rY13_x0.out GY14)
            have rY14_x1 := Lib.hid (Rd.gr rY13_x1.out GY14)
            have rY14_x2 := Lib.hid (Rd.gr rY13_x2.out GY14)
            have rY14_x3 := Lib.hid (Rd.gr rY13_x3.out GY14)
            clear cY13_ag_0 cY13_ag_1 cY13_at_0 cY13_ap_0 cY13_ap_1 cY13_am_0 cY13_am_1 cY13_ax_0 cY13_ax_1 cY13_x0_0 cY13_x0_1 cY13_x1_0 cY13_x2_0 cY13_x2_1 cY13_x3_0 cY13_x3_1
            clear s5 fr5
            go_wp2_with fail
            have kcY14_ag_0 : ∀ w' : World, Gr Y14 w' → w'.cell? ⟨w.heap.size, 0, none⟩ = some (.slice gaq0 glq0 gcq0) := fun w' h => h.keep cY14_ag_0
            have kcY14_ag_1 : ∀ w' : World, Gr Y14 w' → w'.cell? ⟨w.heap.size, 1, none⟩ = some (.slice gaq1 glq1 gcq1) := fun w' h => h.keep cY14_ag_1
            have kcY14_at_0 : ∀ w' : World, Gr Y14 w' → w'.cell? ⟨w.heap.size + 1, 0, none⟩ = some (.slice taq0 tlq0 tcq0) := fun w' h => h.keep cY14_at_0
            have kcY14_ap_0 : ∀ w' : World, Gr Y14 w' → w'.cell? ⟨w.heap.size + 1 + 1, 0, none⟩ = some (.slice paq0 plq0 pcq0) := fun w' h => h.keep cY14_ap_0
            have kcY14_ap_1 : ∀ w' : World, Gr Y14 w' → w'.cell? ⟨w.heap.size + 1 + 1, 1, none⟩ = some (.slice paq1 plq1 pcq1) := fun w' h => h.keep cY14_ap_1
            have kcY14_am_0 : ∀ w' : World, Gr Y14 w' → w'.cell? ⟨w.heap.size + 1 + 1 + 1, 0, none⟩ = some (.slice maq0 mlq0 mcq0) := fun w' h => h.keep cY14_am_0
            have kcY14_am_1 : ∀ w' : World, Gr Y14 w' → w'.cell? ⟨w.heap.size + 1 + 1 + 1, 1, none⟩ = some (.slice maq1 mlq1 mcq1) := fun w' h => h.keep cY14_am_1
            have kcY14_ax_0 : ∀ w' : World, Gr Y14 w' → w'.cell? ⟨w.heap.size + 1 + 1 + 1 + 1, 0, none⟩ = some (.int .i64 xaq0) := fun w' h => h.keep cY14_ax_0
            have kcY14_ax_1 : ∀ w' : World, Gr Y14 w' → w'.cell? ⟨w.heap.size + 1 + 1 + 1 + 1, 1, none⟩ = some (.string xaq1) := fun w' h => h.keep cY14_ax_1
            have kcY14_x0_0 : ∀ w' : World, Gr Y14 w' → w'.cell? ⟨Y7.heap.size, 0, none⟩ = some (.slice ax0q0 lx0q0 cx0q0) := fun w' h => h.keep cY14_x0_0
            have kcY14_x0_1 : ∀ w' : World, Gr Y14 w' → w'.cell? ⟨Y7.heap.size, 1, none⟩ = some (.slice ax0q1 lx0q1 cx0q1) := fun w' h => h.keep cY14_x0_1
            have kcY14_x1_0 : ∀ w' : World, Gr Y14 w' → w'.cell? ⟨Y8.heap.size, 0, none⟩ = some (.slice ax1q0 lx1q0 cx1q0) := fun w' h => h.keep cY14_x1_0
            have kcY14_x2_0 : ∀ w' : World, Gr Y14 w' → w'.cell? ⟨Y9.heap.size, 0, none⟩ = some (.slice ax2q0 lx2q0 cx2q0) := fun w' h => h.keep cY14_x2_0
            have kcY14_x2_1 : ∀ w' : World, Gr Y14 w' → w'.cell? ⟨Y9.heap.size, 1, none⟩ = some (.slice ax2q1 lx2q1 cx2q1) := fun w' h => h.keep cY14_x2_1
            have kcY14_x3_0 : ∀ w' : World, Gr Y14 w' → w'.cell? ⟨Y10.heap.size, 0, none⟩ = some (.slice ax3q0 lx3q0 cx3q0) := fun w' h => h.keep cY14_x3_0
            have kcY14_x3_1 : ∀ w' : World, Gr Y14 w' → w'.cell? ⟨Y10.heap.size, 1, none⟩ = some (.slice ax3q1 lx3q1 cx3q1) := fun w' h => h.keep cY14_x3_1
            go_region_held3 (fun w' => Gr Y14 w') (first | assumption | exact Gr.drew (Gr.refl _) | exact Gr.ext (by assumption) _)
              (first
                | ((go_at_call 23; refine (toMemo_any _ _ p _ (Rd.gr HP.out (GWY14.trans (by assumption))) wtp).mono ?_; rintro e w' ⟨ds5, f5, rfl, s5, fr5, e1, rfl⟩))
                | ((go_at_call 25; refine (eqMemo_any _ _ _ _ p p _ (Rd.gr rY14_x2.out (by assumption)) s5).mono ?_; rintro e w' ⟨rfl, e2, rfl⟩; rw [decide_eq_true rfl])))
            have hY15 : Gr Y14 ((Y14.drew.ext e1).ext e2) := by assumption
            generalize ((Y14.drew.ext e1).ext e2) = Y15 at hY15 ⊢
            clear kcY14_ag_0 kcY14_ag_1 kcY14_at_0 kcY14_ap_0 kcY14_ap_1 kcY14_am_0 kcY14_am_1 kcY14_ax_0 kcY14_ax_1 kcY14_x0_0 kcY14_x0_1 kcY14_x1_0 kcY14_x2_0 kcY14_x2_1 kcY14_x3_0 kcY14_x3_1
            have GY15 : Gr Y14 Y15 := ((by repeat (first | exact Gr.refl _ | apply Gr.ext | apply Gr.alloc | apply Gr.drew)) : Gr Y14 Y14).trans hY15
            have GWY15 : Gr w Y15 := GWY14.trans GY15
            have ZY15 : Y14.heap.size ≤ Y15.heap.size := GY15.size
            have cY15_ag_0 : Y15.cell? ⟨w.heap.size, 0, none⟩ = some (.slice gaq0 glq0 gcq0) := GY15.keep cY14_ag_0
            have cY15_ag_1 : Y15.cell? ⟨w.heap.size, 1, none⟩ = some (.slice gaq1 glq1 gcq1) := GY15.keep cY14_ag_1
            have cY15_at_0 : Y15.cell? ⟨w.heap.size + 1, 0, none⟩ = some (.slice taq0 tlq0 tcq0) := GY15.keep cY14_at_0
            have cY15_ap_0 : Y15.cell? ⟨w.heap.size + 1 + 1, 0, none⟩ = some (.slice paq0 plq0 pcq0) := GY15.keep cY14_ap_0
            have cY15_ap_1 : Y15.cell? ⟨w.heap.size + 1 + 1, 1, none⟩ = some (.slice paq1 plq1 pcq1) := GY15.keep cY14_ap_1
            have cY15_am_0 : Y15.cell? ⟨w.heap.size + 1 + 1 + 1, 0, none⟩ = some (.slice maq0 mlq0 mcq0) := GY15.keep cY14_am_0
            have cY15_am_1 : Y15.cell? ⟨w.heap.size + 1 + 1 + 1, 1, none⟩ = some (.slice maq1 mlq1 mcq1) := GY15.keep cY14_am_1
            have cY15_ax_0 : Y15.cell? ⟨w.heap.size + 1 + 1 + 1 + 1, 0, none⟩ = some (.int .i64 xaq0) := GY15.keep cY14_ax_0
            have cY15_ax_1 : Y15.cell? ⟨w.heap.size + 1 + 1 + 1 + 1, 1, none⟩ = some (.string xaq1) := GY15.keep cY14_ax_1
            have cY15_x0_0 : Y15.cell? ⟨Y7.heap.size, 0, none⟩ = some (.slice ax0q0 lx0q0 cx0q0) := GY15.keep cY14_x0_0
            have cY15_x0_1 : Y15.cell? ⟨Y7.heap.size, 1, none⟩ = some (.slice ax0q1 lx0q1 cx0q1) := GY15.keep cY14_x0_1
            have cY15_x1_0 : Y15.cell? ⟨Y8.heap.size, 0, none⟩ = some (.slice ax1q0 lx1q0 cx1q0) := GY15.keep cY14_x1_0
            have cY15_x2_0 : Y15.cell? ⟨Y9.heap.size, 0, none⟩ = some (.slice ax2q0 lx2q0 cx2q0) := GY15.keep cY14_x2_0
            have cY15_x2_1 : Y15.cell? ⟨Y9.heap.size, 1, none⟩ = some (.slice ax2q1 lx2q1 cx2q1) := GY15.keep cY14_x2_1
            have cY15_x3_0 : Y15.cell? ⟨Y10.heap.size, 0, none⟩ = some (.slice ax3q0 lx3q0 cx3q0) := GY15.keep cY14_x3_0
            have cY15_x3_1 : Y15.cell? ⟨Y10.heap.size, 1, none⟩ = some (.slice ax3q1 lx3q1 cx3q1) := GY15.keep cY14_x3_1
            have zY15_ag := blk cY15_ag_0
            have zY15_at := blk cY15_at_0
            have zY15_ap := blk cY15_ap_0
            have zY15_am := blk cY15_am_0
            have zY15_ax := blk cY15_ax_0
            have zY15_x0 := blk cY15_x0_0
            have zY15_x1 := blk cY15_x1_0
            have zY15_x2 := blk cY15_x2_0
            have zY15_x3 := blk cY15_x3_0
            have rY15_x0 := Lib.hid (Rd.gr rY14_x0.out GY15)
            have rY15_x1 := Lib.hid (Rd.gr rY14_x1.out GY15)
            have rY15_x2 := Lib.hid (Rd.gr rY14_x2.out GY15)
            have rY15_x3 := Lib.hid (Rd.gr rY14_x3.out GY15)
            clear cY14_ag_0 cY14_ag_1 cY14_at_0 cY14_ap_0 cY14_ap_1 cY14_am_0 cY14_am_1 cY14_ax_0 cY14_ax_1 cY14_x0_0 cY14_x0_1 cY14_x1_0 cY14_x2_0 cY14_x2_1 cY14_x3_0 cY14_x3_1
            clear s5 fr5
            go_wp2_with fail
            have kcY15_ag_0 : ∀ w' : World, Gr Y15 w' → w'.cell? ⟨w.heap.size, 0, none⟩ = some (.slice gaq0 glq0 gcq0) := fun w' h => h.keep cY15_ag_0
            have kcY15_ag_1 : ∀ w' : World, Gr Y15 w' → w'.cell? ⟨w.heap.size, 1, none⟩ = some (.slice gaq1 glq1 gcq1) := fun w' h => h.keep cY15_ag_1
            have kcY15_at_0 : ∀ w' : World, Gr Y15 w' → w'.cell? ⟨w.heap.size + 1, 0, none⟩ = some (.slice taq0 tlq0 tcq0) := fun w' h => h.keep cY15_at_0
            have kcY15_ap_0 : ∀ w' : World, Gr Y15 w' → w'.cell? ⟨w.heap.size + 1 + 1, 0, none⟩ = some (.slice paq0 plq0 pcq0) := fun w' h => h.keep cY15_ap_0
            have kcY15_ap_1 : ∀ w' : World, Gr Y15 w' → w'.cell? ⟨w.heap.size + 1 + 1, 1, none⟩ = some (.slice paq1 plq1 pcq1) := fun w' h => h.keep cY15_ap_1
            have kcY15_am_0 : ∀ w' : World, Gr Y15 w' → w'.cell? ⟨w.heap.size + 1 + 1 + 1, 0, none⟩ = some (.slice maq0 mlq0 mcq0) := fun w' h => h.keep cY15_am_0
            have kcY15_am_1 : ∀ w' : World, Gr Y15 w' → w'.cell? ⟨w.heap.size + 1 + 1 + 1, 1, none⟩ = some (.slice maq1 mlq1 mcq1) := fun w' h => h.keep cY15_am_1
            have kcY15_ax_0 : ∀ w' : World, Gr Y15 w' → w'.cell? ⟨w.heap.size + 1 + 1 + 1 + 1, 0, none⟩ = some (.int .i64 xaq0) := fun w' h => h.keep cY15_ax_0
            have kcY15_ax_1 : ∀ w' : World, Gr Y15 w' → w'.cell? ⟨w.heap.size + 1 + 1 + 1 + 1, 1, none⟩ = some (.string xaq1) := fun w' h => h.keep cY15_ax_1
            have kcY15_x0_0 : ∀ w' : World, Gr Y15 w' → w'.cell? ⟨Y7.heap.size, 0, none⟩ = some (.slice ax0q0 lx0q0 cx0q0) := fun w' h => h.keep cY15_x0_0
            have kcY15_x0_1 : ∀ w' : World, Gr Y15 w' → w'.cell? ⟨Y7.heap.size, 1, none⟩ = some (.slice ax0q1 lx0q1 cx0q1) := fun w' h => h.keep cY15_x0_1
            have kcY15_x1_0 : ∀ w' : World, Gr Y15 w' → w'.cell? ⟨Y8.heap.size, 0, none⟩ = some (.slice ax1q0 lx1q0 cx1q0) := fun w' h => h.keep cY15_x1_0
            have kcY15_x2_0 : ∀ w' : World, Gr Y15 w' → w'.cell? ⟨Y9.heap.size, 0, none⟩ = some (.slice ax2q0 lx2q0 cx2q0) := fun w' h => h.keep cY15_x2_0
            have kcY15_x2_1 : ∀ w' : World, Gr Y15 w' → w'.cell? ⟨Y9.heap.size, 1, none⟩ = some (.slice ax2q1 lx2q1 cx2q1) := fun w' h => h.keep cY15_x2_1
            have kcY15_x3_0 : ∀ w' : World, Gr Y15 w' → w'.cell? ⟨Y10.heap.size, 0, none⟩ = some (.slice ax3q0 lx3q0 cx3q0) := fun w' h => h.keep cY15_x3_0
            have kcY15_x3_1 : ∀ w' : World, Gr Y15 w' → w'.cell? ⟨Y10.heap.size, 1, none⟩ = some (.slice ax3q1 lx3q1 cx3q1) := fun w' h => h.keep cY15_x3_1
            go_region_held3 (fun w' => Gr Y15 w') (first | assumption | exact Gr.drew (Gr.refl _) | exact Gr.ext (by assumption) _)
              (first
                | ((go_at_call 23; refine (toMemo_any _ _ m _ (Rd.gr HM.out (GWY15.trans (by assumption))) wtm).mono ?_; rintro e w' ⟨ds5, f5, rfl, s5, fr5, e1, rfl⟩))
                | ((go_at_call 25; refine (eqMemo_any _ _ _ _ m m _ (Rd.gr rY15_x3.out (by assumption)) s5).mono ?_; rintro e w' ⟨rfl, e2, rfl⟩; rw [decide_eq_true rfl])))
            have hY16 : Gr Y15 ((Y15.drew.ext e1).ext e2) := by assumption
            generalize ((Y15.drew.ext e1).ext e2) = Y16 at hY16 ⊢
            clear kcY15_ag_0 kcY15_ag_1 kcY15_at_0 kcY15_ap_0 kcY15_ap_1 kcY15_am_0 kcY15_am_1 kcY15_ax_0 kcY15_ax_1 kcY15_x0_0 kcY15_x0_1 kcY15_x1_0 kcY15_x2_0 kcY15_x2_1 kcY15_x3_0 kcY15_x3_1
            have GY16 : Gr Y15 Y16 := ((by repeat (first | exact Gr.refl _ | apply Gr.ext | apply Gr.alloc | apply Gr.drew)) : Gr Y15 Y15).trans hY16
            have GWY16 : Gr w Y16 := GWY15.trans GY16
            have ZY16 : Y15.heap.size ≤ Y16.heap.size := GY16.size
            have cY16_ag_0 : Y16.cell? ⟨w.heap.size, 0, none⟩ = some (.slice gaq0 glq0 gcq0) := GY16.keep cY15_ag_0
            have cY16_ag_1 : Y16.cell? ⟨w.heap.size, 1, none⟩ = some (.slice gaq1 glq1 gcq1) := GY16.keep cY15_ag_1
            have cY16_at_0 : Y16.cell? ⟨w.heap.size + 1, 0, none⟩ = some (.slice taq0 tlq0 tcq0) := GY16.keep cY15_at_0
            have cY16_ap_0 : Y16.cell? ⟨w.heap.size + 1 + 1, 0, none⟩ = some (.slice paq0 plq0 pcq0) := GY16.keep cY15_ap_0
            have cY16_ap_1 : Y16.cell? ⟨w.heap.size + 1 + 1, 1, none⟩ = some (.slice paq1 plq1 pcq1) := GY16.keep cY15_ap_1
            have cY16_am_0 : Y16.cell? ⟨w.heap.size + 1 + 1 + 1, 0, none⟩ = some (.slice maq0 mlq0 mcq0) := GY16.keep cY15_am_0
            have cY16_am_1 : Y16.cell? ⟨w.heap.size + 1 + 1 + 1, 1, none⟩ = some (.slice maq1 mlq1 mcq1) := GY16.keep cY15_am_1
            have cY16_ax_0 : Y16.cell? ⟨w.heap.size + 1 + 1 + 1 + 1, 0, none⟩ = some (.int .i64 xaq0) := GY16.keep cY15_ax_0
            have cY16_ax_1 : Y16.cell? ⟨w.heap.size + 1 + 1 + 1 + 1, 1, none⟩ = some (.string xaq1) := GY16.keep cY15_ax_1
            have cY16_x0_0 : Y16.cell? ⟨Y7.heap.size, 0, none⟩ = some (.slice ax0q0 lx0q0 cx0q0) := GY16.keep cY15_x0_0
            have cY16_x0_1 : Y16.cell? ⟨Y7.heap.size, 1, none⟩ = some (.slice ax0q1 lx0q1 cx0q1) := GY16.keep cY15_x0_1
            have cY16_x1_0 : Y16.cell? ⟨Y8.heap.size, 0, none⟩ = some (.slice ax1q0 lx1q0 cx1q0) := GY16.keep cY15_x1_0
            have cY16_x2_0 : Y16.cell? ⟨Y9.heap.size, 0, none⟩ = some (.slice ax2q0 lx2q0 cx2q0) := GY16.keep cY15_x2_0
            have cY16_x2_1 : Y16.cell? ⟨Y9.heap.size, 1, none⟩ = some (.slice ax2q1 lx2q1 cx2q1) := GY16.keep cY15_x2_1
            have cY16_x3_0 : Y16.cell? ⟨Y10.heap.size, 0, none⟩ = some (.slice ax3q0 lx3q0 cx3q0) := GY16.keep cY15_x3_0
            have cY16_x3_1 : Y16.cell? ⟨Y10.heap.size, 1, none⟩ = some (.slice ax3q1 lx3q1 cx3q1) := GY16.keep cY15_x3_1
            have zY16_ag := blk cY16_ag_0
            have zY16_at := blk cY16_at_0
            have zY16_ap := blk cY16_ap_0
            have zY16_am := blk cY16_am_0
            have zY16_ax := blk cY16_ax_0
            have zY16_x0 := blk cY16_x0_0
            have zY16_x1 := blk cY16_x1_0
            have zY16_x2 := blk cY16_x2_0
            have zY16_x3 := blk cY16_x3_0
            have rY16_x0 := Lib.hid (Rd.gr rY15_x0.out GY16)
            have rY16_x1 := Lib.hid (Rd.gr rY15_x1.out GY16)
            have rY16_x2 := Lib.hid (Rd.gr rY15_x2.out GY16)
            have rY16_x3 := Lib.hid (Rd.gr rY15_x3.out GY16)
            clear cY15_ag_0 cY15_ag_1 cY15_at_0 cY15_ap_0 cY15_ap_1 cY15_am_0 cY15_am_1 cY15_ax_0 cY15_ax_1 cY15_x0_0 cY15_x0_1 cY15_x1_0 cY15_x2_0 cY15_x2_1 cY15_x3_0 cY15_x3_1
            clear s5 fr5
            go_wp2_with fail
            go_ret
            exact ⟨rfl, ((GWY16).trans (by repeat (first | exact Gr.refl _ | apply Gr.ext | apply Gr.alloc | apply Gr.drew)))⟩
end Go.Proofs.YtbfmeiooeaaibaaGreat

namespace Go.Proofs.YtbfmeiooeaaibaaGreat.fnExactIsJustified
open Go.ChangeShapes Go.WideShapes Go.ChangeAt Go.RowKit
open Go.ChangeMaps (open_string shut_string)
set_option linter.unusedVariables false

theorem own : ownKnob Tryz.prog.godebug = none := by kernel_rfl
theorem laidOut : laidOutB Tryz.prog = true := by kernel_rfl

set_option maxRecDepth 100000 in
theorem lifted (os : Os) (started : os.Started) (H : Type) (enc : TypeId × Value → H) :
    ReturnsInHanded {} Tryz.checked os 4 .any (Rows.fnExactIsJustifiedSpec.pre6 enc Tryz.prog Tryz.f4 Rows.fnExactIsJustifiedRow.domain false) (Rows.fnExactIsJustifiedSpec.post enc Tryz.prog Tryz.f4 false true false false) := by
  refine returnsInHanded_of_change_sized (C := Tryz.checked) own started (by kernel_rfl) Tryz.func4
    (ChangeSpec.witness6 (enc := enc) (C := Tryz.checked) false ⟨#[], #[.agg #[.slice none 0 0, .slice none 0 0], .agg #[.slice none 0 0], .agg #[.slice none 0 0, .slice none 0 0], .agg #[.slice none 0 0, .slice none 0 0], .agg #[.int .i64 0, .string ByteArray.empty]], []⟩ 8 (by kernel_rfl) (by kernel_rfl) (by kernel_rfl) (by kernel_rfl)) ?_
  intro W base args ds gs before hval0 hW _ hsz0 _
  have hsz : (DataW.weightsEach Tryz.prog (Tryz.f4.params.toList ++ Rows.fnExactIsJustifiedSpec.plain.varTypes Tryz.prog) (ds ++ gs)).all (· ≤ reachBytes) = true := hsz0
  clear hsz0
  have hval : ∀ (j : Nat) t v, Tryz.f4.params[j]? = some t → args[j]? = some v → Value.okWide Tryz.prog W .any base t v := hval0
  have hW' := hW
  obtain ⟨p, q, hA0, hV, rfl, hfz, hnd⟩ := hW
  have hA : DataW.TrodAll enc Tryz.prog W 0 (fun _ => true) true Tryz.f4.params.toList args.toList ds p := hA0
  rw [Tryz.params4] at hA hval hsz
  obtain ⟨v0, vs0, d0, ds0, p0, q0, hargs, rfl, rfl, h0, r0⟩ := trodAll_cons hA
  obtain ⟨v1, vs1, d1, ds1, p1, q1, rfl, rfl, rfl, h1, r1⟩ := trodAll_cons r0
  obtain ⟨v2, vs2, d2, ds2, p2, q2, rfl, rfl, rfl, h2, r2⟩ := trodAll_cons r1
  obtain ⟨v3, vs3, d3, ds3, p3, q3, rfl, rfl, rfl, h3, r3⟩ := trodAll_cons r2
  obtain ⟨v4, vs4, d4, ds4, p4, q4, rfl, rfl, rfl, h4, r4⟩ := trodAll_cons r3
  obtain ⟨rfl, rfl, rfl⟩ := trodAll_nil r4
  obtain rfl : args = #[v0, v1, v2, v3, v4] := by cases args; simp_all
  obtain ⟨rfl, rfl⟩ := trodVars_none hV
  have k0 := h0
  have lt0 : ∀ x ∈ p0, x.block < W.heap.size := by obtain ⟨m, hm⟩ := k0; exact DataW.trod_lt m _ _ _ hm
  have wt0 : ∀ n ∈ d0.weights Tryz.prog 25, n ≤ reachBytes := fun n hn => by simpa using List.all_eq_true.1 hsz _ (DataW.weights_mem_each (j := 0) (t := 25) (d := d0) rfl rfl n hn)
  obtain ⟨cs0, rfl, _⟩ := okWide_struct Tryz.underlying25 (hval 0 25 v0 rfl rfl)
  obtain ⟨fuel0, hf0⟩ := h0
  obtain ⟨fp0, x0, s0⟩ := (opensGrammar).2 enc W fuel0 _ d0 p0 hf0 wt0 (fun b o hm => hfz b o (by simp [hm]))
  have k1 := h1
  have lt1 : ∀ x ∈ p1, x.block < W.heap.size := by obtain ⟨m, hm⟩ := k1; exact DataW.trod_lt m _ _ _ hm
  have wt1 : ∀ n ∈ d1.weights Tryz.prog 28, n ≤ reachBytes := fun n hn => by simpa using List.all_eq_true.1 hsz _ (DataW.weights_mem_each (j := 1) (t := 28) (d := d1) rfl rfl n hn)
  obtain ⟨cs1, rfl, _⟩ := okWide_struct Tryz.underlying28 (hval 1 28 v1 rfl rfl)
  obtain ⟨fuel1, hf1⟩ := h1
  obtain ⟨fp1, x1, s1⟩ := (opensTree).2 enc W fuel1 _ d1 p1 hf1 wt1 (fun b o hm => hfz b o (by simp [hm]))
  have k2 := h2
  have lt2 : ∀ x ∈ p2, x.block < W.heap.size := by obtain ⟨m, hm⟩ := k2; exact DataW.trod_lt m _ _ _ hm
  have wt2 : ∀ n ∈ d2.weights Tryz.prog 60, n ≤ reachBytes := fun n hn => by simpa using List.all_eq_true.1 hsz _ (DataW.weights_mem_each (j := 2) (t := 60) (d := d2) rfl rfl n hn)
  obtain ⟨cs2, rfl, _⟩ := okWide_struct Tryz.underlying60 (hval 2 60 v2 rfl rfl)
  obtain ⟨fuel2, hf2⟩ := h2
  obtain ⟨fp2, x2, s2⟩ := (opensMemo).2 enc W fuel2 _ d2 p2 hf2 wt2 (fun b o hm => hfz b o (by simp [hm]))
  have k3 := h3
  have lt3 : ∀ x ∈ p3, x.block < W.heap.size := by obtain ⟨m, hm⟩ := k3; exact DataW.trod_lt m _ _ _ hm
  have wt3 : ∀ n ∈ d3.weights Tryz.prog 60, n ≤ reachBytes := fun n hn => by simpa using List.all_eq_true.1 hsz _ (DataW.weights_mem_each (j := 3) (t := 60) (d := d3) rfl rfl n hn)
  obtain ⟨cs3, rfl, _⟩ := okWide_struct Tryz.underlying60 (hval 3 60 v3 rfl rfl)
  obtain ⟨fuel3, hf3⟩ := h3
  obtain ⟨fp3, x3, s3⟩ := (opensMemo).2 enc W fuel3 _ d3 p3 hf3 wt3 (fun b o hm => hfz b o (by simp [hm]))
  have k4 := h4
  have lt4 : ∀ x ∈ p4, x.block < W.heap.size := by obtain ⟨m, hm⟩ := k4; exact DataW.trod_lt m _ _ _ hm
  have wt4 : ∀ n ∈ d4.weights Tryz.prog 30, n ≤ reachBytes := fun n hn => by simpa using List.all_eq_true.1 hsz _ (DataW.weights_mem_each (j := 4) (t := 30) (d := d4) rfl rfl n hn)
  obtain ⟨cs4, rfl, _⟩ := okWide_struct Tryz.underlying30 (hval 4 30 v4 rfl rfl)
  obtain ⟨fuel4, hf4⟩ := h4
  obtain ⟨fp4, x4, s4⟩ := (opensInstance).2 enc W fuel4 _ d4 p4 hf4 wt4 (fun b o hm => hfz b o (by simp [hm]))
  clear hA0 hval0
  refine (Calls.mono (R := fun e w' => e = .returned (.bool true) ∧ Gr W w') ?_ fun e W' ⟨he, hg⟩ => ?_)
  · exact lawJust_any _ _ _ _ _ _ _ _ _ _ _ _ _ _ _ W s0 s1 s2 s3 s4
  · subst he
    have bel := hg.below
    exact ⟨_, rfl, _, _, _, [], _, [], hW', trodAll_mk1 (shut_bool Tryz.underlying4 _), (trodAll_cons_mk (Below.trod laidOut (by kernel_rfl) (of_decide_eq_true (by kernel_rfl)) k0 bel lt0) (trodAll_cons_mk (Below.trod laidOut (by kernel_rfl) (of_decide_eq_true (by kernel_rfl)) k1 bel lt1) (trodAll_cons_mk (Below.trod laidOut (by kernel_rfl) (of_decide_eq_true (by kernel_rfl)) k2 bel lt2) (trodAll_cons_mk (Below.trod laidOut (by kernel_rfl) (of_decide_eq_true (by kernel_rfl)) k3 bel lt3) (trodAll_cons_mk (Below.trod laidOut (by kernel_rfl) (of_decide_eq_true (by kernel_rfl)) k4 bel lt4) trodAll_mk0))))), rfl, bel.frame _, fun h => by cases h⟩

end Go.Proofs.YtbfmeiooeaaibaaGreat.fnExactIsJustified
