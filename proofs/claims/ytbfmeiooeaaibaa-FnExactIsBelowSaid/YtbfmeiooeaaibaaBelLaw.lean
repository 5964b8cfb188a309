/- The walk of the statement on IsBelow. Made by mk_lawg.py. No condition. -/
import Derived.Test.YtbfmeiooeaaibaaBelS
import Derived.Test.YtbfmeiooeaaibaaIntsC
import Derived.Deep.RegionHeld3
namespace Go.Proofs.Ytbfmeiooeaaibaa
open Go.RowKit
variable {d : Nat}

set_option maxRecDepth 10000 in
set_option maxHeartbeats 16000000 in
theorem lawBelow_any (fpg fpt fpx fpy : List Nat) (cg : Array Value) (ct : Array Value) (vx : Value) (vy : Value) (g : (GGrammar d)) (t : GTree) (x : List Int) (y : List Int) (w : World) (hg : Rd.rd fpg w cg.toList g) (ht : Rd.rd fpt w ct.toList t) (hx : SlR fpx w vx x) (hy : SlR fpy w vy y) :
    Calls Try.prog 3 #[.agg cg, .agg ct, vx, vy] w fun e w' => e = .returned (.bool true) ∧ Gr w w' := by
  have HG := Lib.hid hg
  have HT := Lib.hid ht
  have HX := Lib.hid hx
  have HY := Lib.hid hy
  obtain ⟨gaq0, glq0, gcq0, gaq1, glq1, gcq1, rfl⟩ := rdGrammar_shape hg
  clear hg
  obtain ⟨taq0, tlq0, tcq0, rfl⟩ := rdTree_shape ht
  clear ht
  obtain ⟨ax, kx, rfl, -, -, -⟩ := hx.open
  clear hx
  obtain ⟨ay, ky, rfl, -, -, -⟩ := hy.open
  clear hy
  by_cases hlx : x.length ≤ 1048576
  · skip
    by_cases hly : y.length ≤ 1048576
    · skip
      by_cases hs0 : less 1048576 (wtGrammar g) < 0
      · skip
        have HS0 := Lib.hid hs0
        clear hs0
        go_enter Try.func3, Try.ntmps3
        go_wp2_with fail
        refine (szGrammar_any _ _ g _ _ (Rd.gr HG.out (by repeat (first | exact Gr.refl _ | apply Gr.ext | apply Gr.alloc | apply Gr.drew))) (by omega) (by omega)).mono ?_
        rintro e w' ⟨rfl, z0, rfl⟩
        have hs0 := HS0.out
        go_wp2_with fail
        go_ret
        exact ⟨rfl, (by repeat (first | exact Gr.refl _ | apply Gr.ext | apply Gr.alloc | apply Gr.drew))⟩
      · skip
        have wtg : wtGrammar g ≤ 1048576 := by unfold less at hs0; split at hs0 <;> omega
        have bb0 := less_le 1048576 (wtGrammar g) (by omega)
        by_cases hs1 : less (less 1048576 (wtGrammar g)) (wtTree t) < 0
        · skip
          have HS0 := Lib.hid hs0
          have HS1 := Lib.hid hs1
          clear hs0 hs1
          go_enter Try.func3, Try.ntmps3
          go_wp2_with fail
          refine (szGrammar_any _ _ g _ _ (Rd.gr HG.out (by repeat (first | exact Gr.refl _ | apply Gr.ext | apply Gr.alloc | apply Gr.drew))) (by omega) (by omega)).mono ?_
          rintro e w' ⟨rfl, z0, rfl⟩
          have hs0 := HS0.out
          go_wp2_with fail
          refine (szTree_any _ _ t _ _ (Rd.gr HT.out (by repeat (first | exact Gr.refl _ | apply Gr.ext | apply Gr.alloc | apply Gr.drew))) (by omega) (by omega)).mono ?_
          rintro e w' ⟨rfl, z1, rfl⟩
          have hs1 := HS1.out
          go_wp2_with fail
          go_ret
          exact ⟨rfl, (by repeat (first | exact Gr.refl _ | apply Gr.ext | apply Gr.alloc | apply Gr.drew))⟩
        · skip
          have wtt : wtTree t ≤ 1048576 := by unfold less at hs1; split at hs1 <;> split at hs1 <;> omega
          have bb1 := less_le (less 1048576 (wtGrammar g)) (wtTree t) (by omega)
          have HS0 := Lib.hid hs0
          have HS1 := Lib.hid hs1
          clear hs0 hs1
          go_enter Try.func3, Try.ntmps3
          go_wp2_with fail
          refine (szGrammar_any _ _ g _ _ (Rd.gr HG.out (by repeat (first | exact Gr.refl _ | apply Gr.ext | apply Gr.alloc | apply Gr.drew))) (by omega) (by omega)).mono ?_
          rintro e Y1 ⟨rfl, gY1⟩
          have hs0 := HS0.out
          have GY1 : Gr w Y1 := ((by repeat (first | exact Gr.refl _ | apply Gr.ext | apply Gr.alloc | apply Gr.drew)) : Gr w ((w.alloc (.cells #[.slice gaq0 glq0 gcq0, .slice gaq1 glq1 gcq1] 25)).alloc (.cells #[.slice taq0 tlq0 tcq0] 28))).trans gY1
          have GWY1 : Gr w Y1 := GY1
          have ZY1 : w.heap.size ≤ Y1.heap.size := GY1.size
          have cY1_ag_0 : Y1.cell? ⟨w.heap.size, 0, none⟩ = some (.slice gaq0 glq0 gcq0) := (((by repeat (first | exact Gr.refl _ | apply Gr.ext | apply Gr.alloc | apply Gr.drew)) : Gr (w.alloc (.cells #[.slice gaq0 glq0 gcq0, .slice gaq1 glq1 gcq1] 25)) ((w.alloc (.cells #[.slice gaq0 glq0 gcq0, .slice gaq1 glq1 gcq1] 25)).alloc (.cells #[.slice taq0 tlq0 tcq0] 28))).trans gY1).keep (box_cell (A := _) (by simp) rfl : ((w.alloc (.cells #[.slice gaq0 glq0 gcq0, .slice gaq1 glq1 gcq1] 25))).cell? ⟨w.heap.size, 0, none⟩ = some (.slice gaq0 glq0 gcq0))
          have cY1_ag_1 : Y1.cell? ⟨w.heap.size, 1, none⟩ = some (.slice gaq1 glq1 gcq1) := (((by repeat (first | exact Gr.refl _ | apply Gr.ext | apply Gr.alloc | apply Gr.drew)) : Gr (w.alloc (.cells #[.slice gaq0 glq0 gcq0, .slice gaq1 glq1 gcq1] 25)) ((w.alloc (.cells #[.slice gaq0 glq0 gcq0, .slice gaq1 glq1 gcq1] 25)).alloc (.cells #[.slice taq0 tlq0 tcq0] 28))).trans gY1).keep (box_cell (A := _) (by simp) rfl : ((w.alloc (.cells #[.slice gaq0 glq0 gcq0, .slice gaq1 glq1 gcq1] 25))).cell? ⟨w.heap.size, 1, none⟩ = some (.slice gaq1 glq1 gcq1))
          have cY1_at_0 : Y1.cell? ⟨w.heap.size + 1, 0, none⟩ = some (.slice taq0 tlq0 tcq0) := (((by repeat (first | exact Gr.refl _ | apply Gr.ext | apply Gr.alloc | apply Gr.drew)) : Gr ((w.alloc (.cells #[.slice gaq0 glq0 gcq0, .slice gaq1 glq1 gcq1] 25)).alloc (.cells #[.slice taq0 tlq0 tcq0] 28)) ((w.alloc (.cells #[.slice gaq0 glq0 gcq0, .slice gaq1 glq1 gcq1] 25)).alloc (.cells #[.slice taq0 tlq0 tcq0] 28))).trans gY1).keep (box_cell (A := _) (by simp) rfl : (((w.alloc (.cells #[.slice gaq0 glq0 gcq0, .slice gaq1 glq1 gcq1] 25)).alloc (.cells #[.slice taq0 tlq0 tcq0] 28))).cell? ⟨w.heap.size + 1, 0, none⟩ = some (.slice taq0 tlq0 tcq0))
          have zY1_ag := blk cY1_ag_0
          have zY1_at := blk cY1_at_0
          go_wp2_with fail
          refine (szTree_any _ _ t _ _ (Rd.gr HT.out ((GWY1).trans (by repeat (first | exact Gr.refl _ | apply Gr.ext | apply Gr.alloc | apply Gr.drew)))) (by omega) (by omega)).mono ?_
          rintro e Y2 ⟨rfl, gY2⟩
          have hs1 := HS1.out
          have GY2 : Gr Y1 Y2 := ((by repeat (first | exact Gr.refl _ | apply Gr.ext | apply Gr.alloc | apply Gr.drew)) : Gr Y1 Y1).trans gY2
          have GWY2 : Gr w Y2 := GWY1.trans GY2
          have ZY2 : Y1.heap.size ≤ Y2.heap.size := GY2.size
          have cY2_ag_0 : Y2.cell? ⟨w.heap.size, 0, none⟩ = some (.slice gaq0 glq0 gcq0) := GY2.keep cY1_ag_0
          have cY2_ag_1 : Y2.cell? ⟨w.heap.size, 1, none⟩ = some (.slice gaq1 glq1 gcq1) := GY2.keep cY1_ag_1
          have cY2_at_0 : Y2.cell? ⟨w.heap.size + 1, 0, none⟩ = some (.slice taq0 tlq0 tcq0) := GY2.keep cY1_at_0
          have zY2_ag := blk cY2_ag_0
          have zY2_at := blk cY2_at_0
          clear cY1_ag_0 cY1_ag_1 cY1_at_0
          go_wp2_with fail
          clear hs0 hs1
          have kcY2_ag_0 : ∀ w' : World, Gr Y2 w' → w'.cell? ⟨w.heap.size, 0, none⟩ = some (.slice gaq0 glq0 gcq0) := fun w' h => h.keep cY2_ag_0
          have kcY2_ag_1 : ∀ w' : World, Gr Y2 w' → w'.cell? ⟨w.heap.size, 1, none⟩ = some (.slice gaq1 glq1 gcq1) := fun w' h => h.keep cY2_ag_1
          have kcY2_at_0 : ∀ w' : World, Gr Y2 w' → w'.cell? ⟨w.heap.size + 1, 0, none⟩ = some (.slice taq0 tlq0 tcq0) := fun w' h => h.keep cY2_at_0
          go_region_held3 (fun w' => Gr Y2 w') (first | assumption | exact Gr.drew (Gr.refl _) | exact Gr.ext (by assumption) _)
            (first
              | ((go_at_call_of 7 gaq0; refine (toGrammar_any _ _ g _ (Rd.gr HG.out (GWY2.trans (by assumption))) wtg).mono ?_; rintro e w' ⟨ds0, ff0, rfl, ss0, fr0, ex0, rfl⟩))
              | ((go_at_call_of 8 taq0; refine (toTree_any _ _ t _ (Rd.gr HT.out (GWY2.trans (by assumption))) wtt).mono ?_; rintro e w' ⟨ds1, ff1, rfl, ss1, fr1, ex1, rfl⟩))
              | ((go_at_call_of 9 ax; refine (toIntS_any _ _ x _ (SlR.gr HX.out (GWY2.trans (by assumption))) hlx).mono ?_; rintro e w' ⟨dv2, ff2, rfl, ss2, fr2, ex2, rfl⟩))
              | ((go_at_call_of 9 ay; refine (toIntS_any _ _ y _ (SlR.gr HY.out (GWY2.trans (by assumption))) hly).mono ?_; rintro e w' ⟨dv3, ff3, rfl, ss3, fr3, ex3, rfl⟩))
              | ((go_at_call 6; refine (specBelow_any g t x y _ (Rd.gr ss0 (by repeat (first | exact Gr.refl _ | apply Gr.ext | apply Gr.alloc | apply Gr.drew))) (Rd.gr ss1 (by repeat (first | exact Gr.refl _ | apply Gr.ext | apply Gr.alloc | apply Gr.drew))) (SlR.gr ss2 (by repeat (first | exact Gr.refl _ | apply Gr.ext | apply Gr.alloc | apply Gr.drew))) (SlR.gr ss3 (by repeat (first | exact Gr.refl _ | apply Gr.ext | apply Gr.alloc | apply Gr.drew))) wtg (Nat.le_trans (wtL_len wtNode t) wtt)).mono ?_; rintro e w' ⟨rfl, exz, rfl⟩)))
          have hY3 : Gr Y2 (((((Y2.drew.ext ex0).ext ex1).ext ex2).ext ex3).ext exz) := by assumption
          generalize (((((Y2.drew.ext ex0).ext ex1).ext ex2).ext ex3).ext exz) = Y3 at hY3 ⊢
          clear kcY2_ag_0 kcY2_ag_1 kcY2_at_0
          have GY3 : Gr Y2 Y3 := ((by repeat (first | exact Gr.refl _ | apply Gr.ext | apply Gr.alloc | apply Gr.drew)) : Gr Y2 Y2).trans hY3
          have GWY3 : Gr w Y3 := GWY2.trans GY3
          have ZY3 : Y2.heap.size ≤ Y3.heap.size := GY3.size
          have cY3_ag_0 : Y3.cell? ⟨w.heap.size, 0, none⟩ = some (.slice gaq0 glq0 gcq0) := GY3.keep cY2_ag_0
          have cY3_ag_1 : Y3.cell? ⟨w.heap.size, 1, none⟩ = some (.slice gaq1 glq1 gcq1) := GY3.keep cY2_ag_1
          have cY3_at_0 : Y3.cell? ⟨w.heap.size + 1, 0, none⟩ = some (.slice taq0 tlq0 tcq0) := GY3.keep cY2_at_0
          have zY3_ag := blk cY3_ag_0
          have zY3_at := blk cY3_at_0
          clear cY2_ag_0 cY2_ag_1 cY2_at_0
          clear ss0 fr0 ss1 fr1 ss2 fr2 ss3 fr3
          go_wp2_with fail
          refine (toGrammar_any _ _ g _ (Rd.gr HG.out ((GWY3).trans (by repeat (first | exact Gr.refl _ | apply Gr.ext | apply Gr.alloc | apply Gr.drew)))) wtg).mono ?_
          rintro e Y4 ⟨dsx0, fx0, rfl, sx0, frx0, gY4⟩
          obtain ⟨ax0q0, lx0q0, cx0q0, ax0q1, lx0q1, cx0q1, rfl⟩ := rdGrammar_shape sx0
          have F_x0 : Hid (fx0.Nodup ∧ ∀ b ∈ fx0, Y3.heap.size + 0 ≤ b) := Lib.hid ⟨frx0.1, fun b hb => by have h := frx0.2 b hb; (try simp at h); omega⟩
          have L_x0 := Lib.hid (Rd.lt sx0)
          have ZW0x0 : w.heap.size ≤ Y3.heap.size := Gr.size GWY3
          have rY4_x0 := Lib.hid sx0
          clear sx0 frx0
          have GY4 : Gr Y3 Y4 := ((by repeat (first | exact Gr.refl _ | apply Gr.ext | apply Gr.alloc | apply Gr.drew)) : Gr Y3 Y3).trans gY4
          have GWY4 : Gr w Y4 := GWY3.trans GY4
          have ZY4 : Y3.heap.size ≤ Y4.heap.size := GY4.size
          have cY4_ag_0 : Y4.cell? ⟨w.heap.size, 0, none⟩ = some (.slice gaq0 glq0 gcq0) := GY4.keep cY3_ag_0
          have cY4_ag_1 : Y4.cell? ⟨w.heap.size, 1, none⟩ = some (.slice gaq1 glq1 gcq1) := GY4.keep cY3_ag_1
          have cY4_at_0 : Y4.cell? ⟨w.heap.size + 1, 0, none⟩ = some (.slice taq0 tlq0 tcq0) := GY4.keep cY3_at_0
          have zY4_ag := blk cY4_ag_0
          have zY4_at := blk cY4_at_0
          clear cY3_ag_0 cY3_ag_1 cY3_at_0
          go_wp2_with fail
          refine (toTree_any _ _ t _ (Rd.gr HT.out ((GWY4).trans (by repeat (first | exact Gr.refl _ | apply Gr.ext | apply Gr.alloc | apply Gr.drew)))) wtt).mono ?_
          rintro e Y5 ⟨dsx1, fx1, rfl, sx1, frx1, gY5⟩
          obtain ⟨ax1q0, lx1q0, cx1q0, rfl⟩ := rdTree_shape sx1
          have F_x1 : Hid (fx1.Nodup ∧ ∀ b ∈ fx1, Y4.heap.size + 1 ≤ b) := Lib.hid ⟨frx1.1, fun b hb => by have h := frx1.2 b hb; (try simp at h); omega⟩
          have L_x1 := Lib.hid (Rd.lt sx1)
          have ZW0x1 : w.heap.size ≤ Y4.heap.size := Gr.size GWY4
          have rY5_x1 := Lib.hid sx1
          clear sx1 frx1
          have GY5 : Gr Y4 Y5 := ((by repeat (first | exact Gr.refl _ | apply Gr.ext | apply Gr.alloc | apply Gr.drew)) : Gr Y4 (Y4.alloc (.cells #[.slice ax0q0 lx0q0 cx0q0, .slice ax0q1 lx0q1 cx0q1] 36))).trans gY5
          have GWY5 : Gr w Y5 := GWY4.trans GY5
          have ZY5 : Y4.heap.size ≤ Y5.heap.size := GY5.size
          have cY5_ag_0 : Y5.cell? ⟨w.heap.size, 0, none⟩ = some (.slice gaq0 glq0 gcq0) := GY5.keep cY4_ag_0
          have cY5_ag_1 : Y5.cell? ⟨w.heap.size, 1, none⟩ = some (.slice gaq1 glq1 gcq1) := GY5.keep cY4_ag_1
          have cY5_at_0 : Y5.cell? ⟨w.heap.size + 1, 0, none⟩ = some (.slice taq0 tlq0 tcq0) := GY5.keep cY4_at_0
          have cY5_x0_0 : Y5.cell? ⟨Y4.heap.size, 0, none⟩ = some (.slice ax0q0 lx0q0 cx0q0) := (((by repeat (first | exact Gr.refl _ | apply Gr.ext | apply Gr.alloc | apply Gr.drew)) : Gr (Y4.alloc (.cells #[.slice ax0q0 lx0q0 cx0q0, .slice ax0q1 lx0q1 cx0q1] 36)) (Y4.alloc (.cells #[.slice ax0q0 lx0q0 cx0q0, .slice ax0q1 lx0q1 cx0q1] 36))).trans gY5).keep (box_cell (A := _) (by simp) rfl : ((Y4.alloc (.cells #[.slice ax0q0 lx0q0 cx0q0, .slice ax0q1 lx0q1 cx0q1] 36))).cell? ⟨Y4.heap.size, 0, none⟩ = some (.slice ax0q0 lx0q0 cx0q0))
          have cY5_x0_1 : Y5.cell? ⟨Y4.heap.size, 1, none⟩ = some (.slice ax0q1 lx0q1 cx0q1) := (((by repeat (first | exact Gr.refl _ | apply Gr.ext | apply Gr.alloc | apply Gr.drew)) : Gr (Y4.alloc (.cells #[.slice ax0q0 lx0q0 cx0q0, .slice ax0q1 lx0q1 cx0q1] 36)) (Y4.alloc (.cells #[.slice ax0q0 lx0q0 cx0q0, .slice ax0q1 lx0q1 cx0q1] 36))).trans gY5).keep (box_cell (A := _) (by simp) rfl : ((Y4.alloc (.cells #[.slice ax0q0 lx0q0 cx0q0, .slice ax0q1 lx0q1 cx0q1] 36))).cell? ⟨Y4.heap.size, 1, none⟩ = some (.slice ax0q1 lx0q1 cx0q1))
          have zY5_ag := blk cY5_ag_0
          have zY5_at := blk cY5_at_0
          have zY5_x0 := blk cY5_x0_0
          have rY5_x0 := Lib.hid (Rd.gr rY4_x0.out GY5)
          clear cY4_ag_0 cY4_ag_1 cY4_at_0
          go_wp2_with fail
          refine (toIntS_any _ _ x _ (SlR.gr HX.out ((GWY5).trans (by repeat (first | exact Gr.refl _ | apply Gr.ext | apply Gr.alloc | apply Gr.drew)))) hlx).mono ?_
          rintro e Y6 ⟨vx2, fx2, rfl, sx2, frx2, gY6⟩
          obtain ⟨ax2, cx2, rfl, -, -, -⟩ := sx2.open
          have F_x2 : Hid (fx2.Nodup ∧ ∀ b ∈ fx2, Y5.heap.size + 1 ≤ b) := Lib.hid ⟨frx2.1, fun b hb => by have h := frx2.2 b hb; (try simp at h); omega⟩
          have L_x2 := Lib.hid (SlR.lt sx2)
          have ZW0x2 : w.heap.size ≤ Y5.heap.size := Gr.size GWY5
          have rY6_x2 := Lib.hid sx2
          clear sx2 frx2
          have GY6 : Gr Y5 Y6 := ((by repeat (first | exact Gr.refl _ | apply Gr.ext | apply Gr.alloc | apply Gr.drew)) : Gr Y5 (Y5.alloc (.cells #[.slice ax1q0 lx1q0 cx1q0] 40))).trans gY6
          have GWY6 : Gr w Y6 := GWY5.trans GY6
          have ZY6 : Y5.heap.size ≤ Y6.heap.size := GY6.size
          have cY6_ag_0 : Y6.cell? ⟨w.heap.size, 0, none⟩ = some (.slice gaq0 glq0 gcq0) := GY6.keep cY5_ag_0
          have cY6_ag_1 : Y6.cell? ⟨w.heap.size, 1, none⟩ = some (.slice gaq1 glq1 gcq1) := GY6.keep cY5_ag_1
          have cY6_at_0 : Y6.cell? ⟨w.heap.size + 1, 0, none⟩ = some (.slice taq0 tlq0 tcq0) := GY6.keep cY5_at_0
          have cY6_x0_0 : Y6.cell? ⟨Y4.heap.size, 0, none⟩ = some (.slice ax0q0 lx0q0 cx0q0) := GY6.keep cY5_x0_0
          have cY6_x0_1 : Y6.cell? ⟨Y4.heap.size, 1, none⟩ = some (.slice ax0q1 lx0q1 cx0q1) := GY6.keep cY5_x0_1
          have cY6_x1_0 : Y6.cell? ⟨Y5.heap.size, 0, none⟩ = some (.slice ax1q0 lx1q0 cx1q0) := (((by repeat (first | exact Gr.refl _ | apply Gr.ext | apply Gr.alloc | apply Gr.drew)) : Gr (Y5.alloc (.cells #[.slice ax1q0 lx1q0 cx1q0] 40)) (Y5.alloc (.cells #[.slice ax1q0 lx1q0 cx1q0] 40))).trans gY6).keep (box_cell (A := _) (by simp) rfl : ((Y5.alloc (.cells #[.slice ax1q0 lx1q0 cx1q0] 40))).cell? ⟨Y5.heap.size, 0, none⟩ = some (.slice ax1q0 lx1q0 cx1q0))
          have zY6_ag := blk cY6_ag_0
          have zY6_at := blk cY6_at_0
          have zY6_x0 := blk cY6_x0_0
          have zY6_x1 := blk cY6_x1_0
          have rY6_x0 := Lib.hid (Rd.gr rY5_x0.out GY6)
          have rY6_x1 := Lib.hid (Rd.gr rY5_x1.out GY6)
          clear cY5_ag_0 cY5_ag_1 cY5_at_0 cY5_x0_0 cY5_x0_1
          go_wp2_with fail
          refine (toIntS_any _ _ y _ (SlR.gr HY.out ((GWY6).trans (by repeat (first | exact Gr.refl _ | apply Gr.ext | apply Gr.alloc | apply Gr.drew)))) hly).mono ?_
          rintro e Y7 ⟨vx3, fx3, rfl, sx3, frx3, gY7⟩
          obtain ⟨ax3, cx3, rfl, -, -, -⟩ := sx3.open
          have F_x3 : Hid (fx3.Nodup ∧ ∀ b ∈ fx3, Y6.heap.size + 0 ≤ b) := Lib.hid ⟨frx3.1, fun b hb => by have h := frx3.2 b hb; (try simp at h); omega⟩
          have L_x3 := Lib.hid (SlR.lt sx3)
          have ZW0x3 : w.heap.size ≤ Y6.heap.size := Gr.size GWY6
          have rY7_x3 := Lib.hid sx3
          clear sx3 frx3
          have GY7 : Gr Y6 Y7 := ((by repeat (first | exact Gr.refl _ | apply Gr.ext | apply Gr.alloc | apply Gr.drew)) : Gr Y6 Y6).trans gY7
          have GWY7 : Gr w Y7 := GWY6.trans GY7
          have ZY7 : Y6.heap.size ≤ Y7.heap.size := GY7.size
          have cY7_ag_0 : Y7.cell? ⟨w.heap.size, 0, none⟩ = some (.slice gaq0 glq0 gcq0) := GY7.keep cY6_ag_0
          have cY7_ag_1 : Y7.cell? ⟨w.heap.size, 1, none⟩ = some (.slice gaq1 glq1 gcq1) := GY7.keep cY6_ag_1
          have cY7_at_0 : Y7.cell? ⟨w.heap.size + 1, 0, none⟩ = some (.slice taq0 tlq0 tcq0) := GY7.keep cY6_at_0
          have cY7_x0_0 : Y7.cell? ⟨Y4.heap.size, 0, none⟩ = some (.slice ax0q0 lx0q0 cx0q0) := GY7.keep cY6_x0_0
          have cY7_x0_1 : Y7.cell? ⟨Y4.heap.size, 1, none⟩ = some (.slice ax0q1 lx0q1 cx0q1) := GY7.keep cY6_x0_1
          have cY7_x1_0 : Y7.cell? ⟨Y5.heap.size, 0, none⟩ = some (.slice ax1q0 lx1q0 cx1q0) := GY7.keep cY6_x1_0
          have zY7_ag := blk cY7_ag_0
          have zY7_at := blk cY7_at_0
          have zY7_x0 := blk cY7_x0_0
          have zY7_x1 := blk cY7_x1_0
          have rY7_x0 := Lib.hid (Rd.gr rY6_x0.out GY7)
          have rY7_x1 := Lib.hid (Rd.gr rY6_x1.out GY7)
          have rY7_x2 := Lib.hid (SlR.gr rY6_x2.out GY7)
          clear cY6_ag_0 cY6_ag_1 cY6_at_0 cY6_x0_0 cY6_x0_1 cY6_x1_0
          go_wp2_with fail
          refine (implBelow_any g t x y _ rY7_x0.out rY7_x1.out rY7_x2.out rY7_x3.out wtg).mono ?_
          rintro e Y8 ⟨rfl, gY8⟩
          have GY8 : Gr Y7 Y8 := ((by repeat (first | exact Gr.refl _ | apply Gr.ext | apply Gr.alloc | apply Gr.drew)) : Gr Y7 Y7).trans gY8
          have GWY8 : Gr w Y8 := GWY7.trans GY8
          have ZY8 : Y7.heap.size ≤ Y8.heap.size := GY8.size
          have cY8_ag_0 : Y8.cell? ⟨w.heap.size, 0, none⟩ = some (.slice gaq0 glq0 gcq0) := GY8.keep cY7_ag_0
          have cY8_ag_1 : Y8.cell? ⟨w.heap.size, 1, none⟩ = some (.slice gaq1 glq1 gcq1) := GY8.keep cY7_ag_1
          have cY8_at_0 : Y8.cell? ⟨w.heap.size + 1, 0, none⟩ = some (.slice taq0 tlq0 tcq0) := GY8.keep cY7_at_0
          have cY8_x0_0 : Y8.cell? ⟨Y4.heap.size, 0, none⟩ = some (.slice ax0q0 lx0q0 cx0q0) := GY8.keep cY7_x0_0
          have cY8_x0_1 : Y8.cell? ⟨Y4.heap.size, 1, none⟩ = some (.slice ax0q1 lx0q1 cx0q1) := GY8.keep cY7_x0_1
          have cY8_x1_0 : Y8.cell? ⟨Y5.heap.size, 0, none⟩ = some (.slice ax1q0 lx1q0 cx1q0) := GY8.keep cY7_x1_0
          have zY8_ag := blk cY8_ag_0
          have zY8_at := blk cY8_at_0
          have zY8_x0 := blk cY8_x0_0
          have zY8_x1 := blk cY8_x1_0
          have rY8_x0 := Lib.hid (Rd.gr rY7_x0.out GY8)
          have rY8_x1 := Lib.hid (Rd.gr rY7_x1.out GY8)
          have rY8_x2 := Lib.hid (SlR.gr rY7_x2.out GY8)
          have rY8_x3 := Lib.hid (SlR.gr rY7_x3.out GY8)
          clear cY7_ag_0 cY7_ag_1 cY7_at_0 cY7_x0_0 cY7_x0_1 cY7_x1_0
          go_wp2_with fail
          have kcY8_ag_0 : ∀ w' : World, Gr Y8 w' → w'.cell? ⟨w.heap.size, 0, none⟩ = some (.slice gaq0 glq0 gcq0) := fun w' h => h.keep cY8_ag_0
          have kcY8_ag_1 : ∀ w' : World, Gr Y8 w' → w'.cell? ⟨w.heap.size, 1, none⟩ = some (.slice gaq1 glq1 gcq1) := fun w' h => h.keep cY8_ag_1
          have kcY8_at_0 : ∀ w' : World, Gr Y8 w' → w'.cell? ⟨w.heap.size + 1, 0, none⟩ = some (.slice taq0 tlq0 tcq0) := fun w' h => h.keep cY8_at_0
          have kcY8_x0_0 : ∀ w' : World, Gr Y8 w' → w'.cell? ⟨Y4.heap.size, 0, none⟩ = some (.slice ax0q0 lx0q0 cx0q0) := fun w' h => h.keep cY8_x0_0
          have kcY8_x0_1 : ∀ w' : World, Gr Y8 w' → w'.cell? ⟨Y4.heap.size, 1, none⟩ = some (.slice ax0q1 lx0q1 cx0q1) := fun w' h => h.keep cY8_x0_1
          have kcY8_x1_0 : ∀ w' : World, Gr Y8 w' → w'.cell? ⟨Y5.heap.size, 0, none⟩ = some (.slice ax1q0 lx1q0 cx1q0) := fun w' h => h.keep cY8_x1_0
          go_region_held3 (fun w' => Gr Y8 w') (first | assumption | exact Gr.drew (Gr.refl _) | exact Gr.ext (by assumption) _)
            (first
              | ((go_at_call 7; refine (toGrammar_any _ _ g _ (Rd.gr HG.out (GWY8.trans (by assumption))) wtg).mono ?_; rintro e w' ⟨ds5, f5, rfl, s5, fr5, e1, rfl⟩))
              | ((go_at_call 11; refine (eqGrammar_any _ _ _ _ g g _ (Rd.gr rY8_x0.out (by assumption)) s5).mono ?_; rintro e w' ⟨rfl, e2, rfl⟩; rw [decide_eq_true rfl])))
          have hY9 : Gr Y8 ((Y8.drew.ext e1).ext e2) := by assumption
          generalize ((Y8.drew.ext e1).ext e2) = Y9 at hY9 ⊢
          clear kcY8_ag_0 kcY8_ag_1 kcY8_at_0 kcY8_x0_0 kcY8_x0_1 kcY8_x1_0
          have GY9 : Gr Y8 Y9 := ((by repeat (first | exact Gr.refl _ | apply Gr.ext | apply Gr.alloc | apply Gr.drew)) : Gr Y8 Y8).trans hY9
          have GWY9 : Gr w Y9 := GWY8.trans GY9
          have ZY9 : Y8.heap.size ≤ Y9.heap.size := GY9.size
          have cY9_ag_0 : Y9.cell? ⟨w.heap.size, 0, none⟩ = some (.slice gaq0 glq0 gcq0) := GY9.keep cY8_ag_0
          have cY9_ag_1 : Y9.cell? ⟨w.heap.size, 1, none⟩ = some (.slice gaq1 glq1 gcq1) := GY9.keep cY8_ag_1
          have cY9_at_0 : Y9.cell? ⟨w.heap.size + 1, 0, none⟩ = some (.slice taq0 tlq0 tcq0) := GY9.keep cY8_at_0
          have cY9_x0_0 : Y9.cell? ⟨Y4.heap.size, 0, none⟩ = some (.slice ax0q0 lx0q0 cx0q0) := GY9.keep cY8_x0_0
          have cY9_x0_1 : Y9.cell? ⟨Y4.heap.size, 1, none⟩ = some (.slice ax0q1 lx0q1 cx0q1) := GY9.keep cY8_x0_1
          have cY9_x1_0 : Y9.cell? ⟨Y5.heap.size, 0, none⟩ = some (.slice ax1q0 lx1q0 cx1q0) := GY9.keep cY8_x1_0
          have zY9_ag := blk cY9_ag_0
          have zY9_at := blk cY9_at_0
          have zY9_x0 := blk cY9_x0_0
          have zY9_x1 := blk cY9_x1_0
          have rY9_x0 := Lib.hid (Rd.gr rY8_x0.out GY9)
          have rY9_x1 := Lib.hid (Rd.gr rY8_x1.out GY9)
          have rY9_x2 := Lib.hid (SlR.gr rY8_x2.out GY9)
          have rY9_x3 := Lib.hid (SlR.gr rY8_x3.out GY9)
          clear cY8_ag_0 cY8_ag_1 cY8_at_0 cY8_x0_0 cY8_x0_1 cY8_x1_0
          clear s5 fr5
          go_wp2_with fail
          have kcY9_ag_0 : ∀ w' : World, Gr Y9 w' → w'.cell? ⟨w.heap.size, 0, none⟩ = some (.slice gaq0 glq0 gcq0) := fun w' h => h.keep cY9_ag_0
          have kcY9_ag_1 : ∀ w' : World, Gr Y9 w' → w'.cell? ⟨w.heap.size, 1, none⟩ = some (.slice gaq1 glq1 gcq1) := fun w' h => h.keep cY9_ag_1
          have kcY9_at_0 : ∀ w' : World, Gr Y9 w' → w'.cell? ⟨w.heap.size + 1, 0, none⟩ = some (.slice taq0 tlq0 tcq0) := fun w' h => h.keep cY9_at_0
          have kcY9_x0_0 : ∀ w' : World, Gr Y9 w' → w'.cell? ⟨Y4.heap.size, 0, none⟩ = some (.slice ax0q0 lx0q0 cx0q0) := fun w' h => h.keep cY9_x0_0
          have kcY9_x0_1 : ∀ w' : World, Gr Y9 w' → w'.cell? ⟨Y4.heap.size, 1, none⟩ = some (.slice ax0q1 lx0q1 cx0q1) := fun w' h => h.keep cY9_x0_1
          have kcY9_x1_0 : ∀ w' : World, Gr Y9 w' → w'.cell? ⟨Y5.heap.size, 0, none⟩ = some (.slice ax1q0 lx1q0 cx1q0) := fun w' h => h.keep cY9_x1_0
          go_region_held3 (fun w' => Gr Y9 w') (first | assumption | exact Gr.drew (Gr.refl _) | exact Gr.ext (by assumption) _)
            (first
              | ((go_at_call 8; refine (toTree_any _ _ t _ (Rd.gr HT.out (GWY9.trans (by assumption))) wtt).mono ?_; rintro e w' ⟨ds5, f5, rfl, s5, fr5, e1, rfl⟩))
              | ((go_at_call 12; refine (eqTree_any _ _ _ _ t t _ (Rd.gr rY9_x1.out (by assumption)) s5).mono ?_; rintro e w' ⟨rfl, e2, rfl⟩; rw [decide_eq_true rfl])))
          have hY10 : Gr Y9 ((Y9.drew.ext e1).ext e2) := by assumption
          generalize ((Y9.drew.ext e1).ext e2) = Y10 at hY10 ⊢
          clear kcY9_ag_0 kcY9_ag_1 kcY9_at_0 kcY9_x0_0 kcY9_x0_1 kcY9_x1_0
          have GY10 : Gr Y9 Y10 := ((by repeat (first | exact Gr.refl _ | apply Gr.ext | apply Gr.alloc | apply Gr.drew)) : Gr Y9 Y9).trans hY10
          have GWY10 : Gr w Y10 := GWY9.trans GY10
          have ZY10 : Y9.heap.size ≤ Y10.heap.size := GY10.size
          have cY10_ag_0 : Y10.cell? ⟨w.heap.size, 0, none⟩ = some (.slice gaq0 glq0 gcq0) := GY10.keep cY9_ag_0
          have cY10_ag_1 : Y10.cell? ⟨w.heap.size, 1, none⟩ = some (.slice gaq1 glq1 gcq1) := GY10.keep cY9_ag_1
          have cY10_at_0 : Y10.cell? ⟨w.heap.size + 1, 0, none⟩ = some (.slice taq0 tlq0 tcq0) := GY10.keep cY9_at_0
          have cY10_x0_0 : Y10.cell? ⟨Y4.heap.size, 0, none⟩ = some (.slice ax0q0 lx0q0 cx0q0) := GY10.keep cY9_x0_0
          have cY10_x0_1 : Y10.cell? ⟨Y4.heap.size, 1, none⟩ = some (.slice ax0q1 lx0q1 cx0q1) := GY10.keep cY9_x0_1
          have cY10_x1_0 : Y10.cell? ⟨Y5.heap.size, 0, none⟩ = some (.slice ax1q0 lx1q0 cx1q0) := GY10.keep cY9_x1_0
          have zY10_ag := blk cY10_ag_0
          have zY10_at := blk cY10_at_0
          have zY10_x0 := blk cY10_x0_0
          have zY10_x1 := blk cY10_x1_0
          have rY10_x0 := Lib.hid (Rd.gr rY9_x0.out GY10)
          have rY10_x1 := Lib.hid (Rd.gr rY9_x1.out GY10)
          have rY10_x2 := Lib.hid (SlR.gr rY9_x2.out GY10)
          have rY10_x3 := Lib.hid (SlR.gr rY9_x3.out GY10)
          clear cY9_ag_0 cY9_ag_1 cY9_at_0 cY9_x0_0 cY9_x0_1 cY9_x1_0
          clear s5 fr5
          go_wp2_with fail
          refine (toIntS_any _ _ x _ (SlR.gr HX.out ((GWY10).trans (by repeat (first | exact Gr.refl _ | apply Gr.ext | apply Gr.alloc | apply Gr.drew)))) hlx).mono ?_
          rintro e Y11 ⟨vu2, fu2, rfl, su2, fru2, gY11⟩
          obtain ⟨au2, cu2, rfl, -, -, -⟩ := su2.open
          have F_u2 : Hid (fu2.Nodup ∧ ∀ b ∈ fu2, Y10.heap.size + 0 ≤ b) := Lib.hid ⟨fru2.1, fun b hb => by have h := fru2.2 b hb; (try simp at h); omega⟩
          have L_u2 := Lib.hid (SlR.lt su2)
          have ZW0u2 : w.heap.size ≤ Y10.heap.size := Gr.size GWY10
          have rY11_u2 := Lib.hid su2
          clear su2 fru2
          have GY11 : Gr Y10 Y11 := ((by repeat (first | exact Gr.refl _ | apply Gr.ext | apply Gr.alloc | apply Gr.drew)) : Gr Y10 Y10).trans gY11
          have GWY11 : Gr w Y11 := GWY10.trans GY11
          have ZY11 : Y10.heap.size ≤ Y11.heap.size := GY11.size
          have cY11_ag_0 : Y11.cell? ⟨w.heap.size, 0, none⟩ = some (.slice gaq0 glq0 gcq0) := GY11.keep cY10_ag_0
          have cY11_ag_1 : Y11.cell? ⟨w.heap.size, 1, none⟩ = some (.slice gaq1 glq1 gcq1) := GY11.keep cY10_ag_1
          have cY11_at_0 : Y11.cell? ⟨w.heap.size + 1, 0, none⟩ = some (.slice taq0 tlq0 tcq0) := GY11.keep cY10_at_0
          have cY11_x0_0 : Y11.cell? ⟨Y4.heap.size, 0, none⟩ = some (.slice ax0q0 lx0q0 cx0q0) := GY11.keep cY10_x0_0
          have cY11_x0_1 : Y11.cell? ⟨Y4.heap.size, 1, none⟩ = some (.slice ax0q1 lx0q1 cx0q1) := GY11.keep cY10_x0_1
          have cY11_x1_0 : Y11.cell? ⟨Y5.heap.size, 0, none⟩ = some (.slice ax1q0 lx1q0 cx1q0) := GY11.keep cY10_x1_0
          have zY11_ag := blk cY11_ag_0
          have zY11_at := blk cY11_at_0
          have zY11_x0 := blk cY11_x0_0
          have zY11_x1 := blk cY11_x1_0
          have rY11_x0 := Lib.hid (Rd.gr rY10_x0.out GY11)
          have rY11_x1 := Lib.hid (Rd.gr rY10_x1.out GY11)
          have rY11_x2 := Lib.hid (SlR.gr rY10_x2.out GY11)
          have rY11_x3 := Lib.hid (SlR.gr rY10_x3.out GY11)
          clear cY10_ag_0 cY10_ag_1 cY10_at_0 cY10_x0_0 cY10_x0_1 cY10_x1_0
          go_wp2_with fail
          refine (eqIntS_any fx2 fu2 _ _ x x _ rY11_x2.out rY11_u2.out).mono ?_
          rintro e Y12 ⟨rfl, gY12⟩
          rw [decide_eq_true rfl]
          have GY12 : Gr Y11 Y12 := ((by repeat (first | exact Gr.refl _ | apply Gr.ext | apply Gr.alloc | apply Gr.drew)) : Gr Y11 Y11).trans gY12
          have GWY12 : Gr w Y12 := GWY11.trans GY12
          have ZY12 : Y11.heap.size ≤ Y12.heap.size := GY12.size
          have cY12_ag_0 : Y12.cell? ⟨w.heap.size, 0, none⟩ = some (.slice gaq0 glq0 gcq0) := GY12.keep cY11_ag_0
          have cY12_ag_1 : Y12.cell? ⟨w.heap.size, 1, none⟩ = some (.slice gaq1 glq1 gcq1) := GY12.keep cY11_ag_1
          have cY12_at_0 : Y12.cell? ⟨w.heap.size + 1, 0, none⟩ = some (.slice taq0 tlq0 tcq0) := GY12.keep cY11_at_0
          have cY12_x0_0 : Y12.cell? ⟨Y4.heap.size, 0, none⟩ = some (.slice ax0q0 lx0q0 cx0q0) := GY12.keep cY11_x0_0
          have cY12_x0_1 : Y12.cell? ⟨Y4.heap.size, 1, none⟩ = some (.slice ax0q1 lx0q1 cx0q1) := GY12.keep cY11_x0_1
          have cY12_x1_0 : Y12.cell? ⟨Y5.heap.size, 0, none⟩ = some (.slice ax1q0 lx1q0 cx1q0) := GY12.keep cY11_x1_0
          have zY12_ag := blk cY12_ag_0
          have zY12_at := blk cY12_at_0
          have zY12_x0 := blk cY12_x0_0
          have zY12_x1 := blk cY12_x1_0
          have rY12_x0 := Lib.hid (Rd.gr rY11_x0.out GY12)
          have rY12_x1 := Lib.hid (Rd.gr rY11_x1.out GY12)
          have rY12_x2 := Lib.hid (SlR.gr rY11_x2.out GY12)
          have rY12_x3 := Lib.hid (SlR.gr rY11_x3.out GY12)
          have rY12_u2 := Lib.hid (SlR.gr rY11_u2.out GY12)
          clear cY11_ag_0 cY11_ag_1 cY11_at_0 cY11_x0_0 cY11_x0_1 cY11_x1_0
          go_wp2_with fail
          refine (toIntS_any _ _ y _ (SlR.gr HY.out ((GWY12).trans (by repeat (first | exact Gr.refl _ | apply Gr.ext | apply Gr.alloc | apply Gr.drew)))) hly).mono ?_
          rintro e Y13 ⟨vu3, fu3, rfl, su3, fru3, gY13⟩
          obtain ⟨au3, cu3, rfl, -, -, -⟩ := su3.open
          have F_u3 : Hid (fu3.Nodup ∧ ∀ b ∈ fu3, Y12.heap.size + 0 ≤ b) := Lib.hid ⟨fru3.1, fun b hb => by have h := fru3.2 b hb; (try simp at h); omega⟩
          have L_u3 := Lib.hid (SlR.lt su3)
          have ZW0u3 : w.heap.size ≤ Y12.heap.size := Gr.size GWY12
          have rY13_u3 := Lib.hid su3
          clear su3 fru3
          have GY13 : Gr Y12 Y13 := ((by repeat (first | exact Gr.refl _ | apply Gr.ext | apply Gr.alloc | apply Gr.drew)) : Gr Y12 Y12).trans gY13
          have GWY13 : Gr w Y13 := GWY12.trans GY13
          have ZY13 : Y12.heap.size ≤ Y13.heap.size := GY13.size
          have cY13_ag_0 : Y13.cell? ⟨w.heap.size, 0, none⟩ = some (.slice gaq0 glq0 gcq0) := GY13.keep cY12_ag_0
          have cY13_ag_1 : Y13.cell? ⟨w.heap.size, 1, none⟩ = some (.slice gaq1 glq1 gcq1) := GY13.keep cY12_ag_1
          have cY13_at_0 : Y13.cell? ⟨w.heap.size + 1, 0, none⟩ = some (.slice taq0 tlq0 tcq0) := GY13.keep cY12_at_0
          have cY13_x0_0 : Y13.cell? ⟨Y4.heap.size, 0, none⟩ = some (.slice ax0q0 lx0q0 cx0q0) := GY13.keep cY12_x0_0
          have cY13_x0_1 : Y13.cell? ⟨Y4.heap.size, 1, none⟩ = some (.slice ax0q1 lx0q1 cx0q1) := GY13.keep cY12_x0_1
          have cY13_x1_0 : Y13.cell? ⟨Y5.heap.size, 0, none⟩ = some (.slice ax1q0 lx1q0 cx1q0) := GY13.keep cY12_x1_0
          have zY13_ag := blk cY13_ag_0
          have zY13_at := blk cY13_at_0
          have zY13_x0 := blk cY13_x0_0
          have zY13_x1 := blk cY13_x1_0
          have rY13_x0 := Lib.hid (Rd.gr rY12_x0.out GY13)
          have rY13_x1 := Lib.hid (Rd.gr rY12_x1.out GY13)
          have rY13_x2 := Lib.hid (SlR.gr rY12_x2.out GY13)
          have rY13_x3 := Lib.hid (SlR.gr rY12_x3.out GY13)
          clear cY12_ag_0 cY12_ag_1 cY12_at_0 cY12_x0_0 cY12_x0_1 cY12_x1_0
          go_wp2_with fail
          refine (eqIntS_any fx3 fu3 _ _ y y _ rY13_x3.out rY13_u3.out).mono ?_
          rintro e Y14 ⟨rfl, gY14⟩
          rw [decide_eq_true rfl]
          have GY14 : Gr Y13 Y14 := ((by repeat (first | exact Gr.refl _ | apply Gr.ext | apply Gr.alloc | apply Gr.drew)) : Gr Y13 Y13).trans gY14
          have GWY14 : Gr w Y14 := GWY13.trans GY14
          have ZY14 : Y13.heap.size ≤ Y14.heap.size := GY14.size
          have cY14_ag_0 : Y14.cell? ⟨w.heap.size, 0, none⟩ = some (.slice gaq0 glq0 gcq0) := GY14.keep cY13_ag_0
          have cY14_ag_1 : Y14.cell? ⟨w.heap.size, 1, none⟩ = some (.slice gaq1 glq1 gcq1) := GY14.keep cY13_ag_1
          have cY14_at_0 : Y14.cell? ⟨w.heap.size + 1, 0, none⟩ = some (.slice taq0 tlq0 tcq0) := GY14.keep cY13_at_0
          have cY14_x0_0 : Y14.cell? ⟨Y4.heap.size, 0, none⟩ = some (.slice ax0q0 lx0q0 cx0q0) := GY14.keep cY13_x0_0
          have cY14_x0_1 : Y14.cell? ⟨Y4.heap.size, 1, none⟩ = some (.slice ax0q1 lx0q1 cx0q1) := GY14.keep cY13_x0_1
          have cY14_x1_0 : Y14.cell? ⟨Y5.heap.size, 0, none⟩ = some (.slice ax1q0 lx1q0 cx1q0) := GY14.keep cY13_x1_0
          have zY14_ag := blk cY14_ag_0
          have zY14_at := blk cY14_at_0
          have zY14_x0 := blk cY14_x0_0
          have zY14_x1 := blk cY14_x1_0
          have rY14_x0 := Lib.hid (Rd.gr rY13_x0.out GY14)
          have rY14_x1 := Lib.hid (Rd.gr rY13_x1.out GY14)
          have rY14_x2 := Lib.hid (SlR.gr rY13_x2.out GY14)
          have rY14_x3 := Lib.hid (SlR.gr rY13_x3.out GY14)
          have rY14_u3 := Lib.hid (SlR.gr rY13_u3.out GY14)
          clear cY13_ag_0 cY13_ag_1 cY13_at_0 cY13_x0_0 cY13_x0_1 cY13_x1_0
          go_wp2_with fail
          go_ret
          exact ⟨rfl, ((GWY14).trans (by repeat (first | exact Gr.refl _ | apply Gr.ext | apply Gr.alloc | apply Gr.drew)))⟩
    · go_enter Try.func3, Try.ntmps3
      go_wp2_with fail
      go_ret
      exact ⟨rfl, (by repeat (first | exact Gr.refl _ | apply Gr.ext | apply Gr.alloc | apply Gr.drew))⟩
  · go_enter Try.func3, Try.ntmps3
    go_wp2_with fail
    go_ret
    exact ⟨rfl, (by repeat (first | exact Gr.refl _ | apply Gr.ext | apply Gr.alloc | apply Gr.drew))⟩
end Go.Proofs.Ytbfmeiooeaaibaa
