/- The walk of the statement on FnExactEqualSession. Made by mk_law2.py. No condition. -/
import Derived.Test.YtmdiabjaggadjaaGreatEqSess
import Derived.Deep.RegionHeld3
namespace Go.Proofs.YtmdiabjaggadjaaGreat
open Go.RowKit
variable {d : Nat}

set_option maxRecDepth 10000 in
set_option maxHeartbeats 8000000 in
theorem lawEqSession_any (fp fq : List Nat) (cs ds : Array Value) (x y : GSession d) (w : World) (hx : Rd.rd fp w cs.toList x) (hy : Rd.rd fq w ds.toList y) :
    Calls Tryz.prog 3 #[.agg cs, .agg ds] w fun e w' => e = .returned (.bool true) ∧ Gr w w' := by
  have hrx := hx
  have hry := hy
  obtain ⟨ca0, cl0, cc0, ca1, cl1, cc1, ca2, cl2, cc2, ca3, cl3, cc3, ca4, cl4, cc4, c5, rfl⟩ := rdSession_shape hx
  obtain ⟨da0, dl0, dc0, da1, dl1, dc1, da2, dl2, dc2, da3, dl3, dc3, da4, dl4, dc4, d5, rfl⟩ := rdSession_shape hy
  by_cases hn : less 1048576 (wtSession x) < 0
  · have HN := Lib.hid hn
    clear hn
    go_enter Tryz.func3, Tryz.ntmps3
    go_wp2_with fail
    refine (szSession_any _ _ x _ _ (Rd.gr hrx (by repeat (first | exact Gr.refl _ | apply Gr.ext | apply Gr.alloc | apply Gr.drew))) (by omega) (by omega)).mono ?_
    rintro e w' ⟨rfl, x0, rfl⟩
    have hn := HN.out
    go_wp2_with fail
    go_ret
    exact ⟨rfl, (by repeat (first | exact Gr.refl _ | apply Gr.ext | apply Gr.alloc | apply Gr.drew))⟩
  · have hw : wtSession x ≤ 1048576 := by unfold less at hn; split at hn <;> omega
    have hb := less_le 1048576 (wtSession x) (by omega)
    by_cases hm : less (less 1048576 (wtSession x)) (wtSession y) < 0
    · have HN := Lib.hid hn
      have HM := Lib.hid hm
      clear hn hm
      go_enter Tryz.func3, Tryz.ntmps3
      go_wp2_with fail
      refine (szSession_any _ _ x _ _ (Rd.gr hrx (by repeat (first | exact Gr.refl _ | apply Gr.ext | apply Gr.alloc | apply Gr.drew))) (by omega) (by omega)).mono ?_
      rintro e w' ⟨rfl, x0, rfl⟩
      have hn := HN.out
      go_wp2_with fail
      refine (szSession_any _ _ y _ _ (Rd.gr hry (by repeat (first | exact Gr.refl _ | apply Gr.ext | apply Gr.alloc | apply Gr.drew))) (by omega) (by omega)).mono ?_
      rintro e w' ⟨rfl, x1, rfl⟩
      have hm := HM.out
      go_wp2_with fail
      go_ret
      exact ⟨rfl, (by repeat (first | exact Gr.refl _ | apply Gr.ext | apply Gr.alloc | apply Gr.drew))⟩
    · have hw2 : wtSession y ≤ 1048576 := by unfold less at hm; split at hm <;> split at hm <;> omega
      have HN := Lib.hid hn
      have HM := Lib.hid hm
      clear hn hm
      go_enter Tryz.func3, Tryz.ntmps3
      go_wp2_with fail
      refine (szSession_any _ _ x _ _ (Rd.gr hrx (by repeat (first | exact Gr.refl _ | apply Gr.ext | apply Gr.alloc | apply Gr.drew))) (by omega) (by omega)).mono ?_
      rintro e w' ⟨rfl, x0, rfl⟩
      have hn := HN.out
      go_wp2_with fail
      refine (szSession_any _ _ y _ _ (Rd.gr hry (by repeat (first | exact Gr.refl _ | apply Gr.ext | apply Gr.alloc | apply Gr.drew))) (by omega) (by omega)).mono ?_
      rintro e w' ⟨rfl, x1, rfl⟩
      have hm := HM.out
      clear hn
      go_wp2_with fail
      clear hm
      generalize hW : ((((w.alloc (Obj.cells #[.slice ca0 cl0 cc0, .slice ca1 cl1 cc1, .slice ca2 cl2 cc2, .slice ca3 cl3 cc3, .slice ca4 cl4 cc4, .int .i64 c5] 34)).alloc (Obj.cells #[.slice da0 dl0 dc0, .slice da1 dl1 dc1, .slice da2 dl2 dc2, .slice da3 dl3 dc3, .slice da4 dl4 dc4, .int .i64 d5] 34)).ext x0).ext x1) = W
      have gW : Gr w W := by rw [← hW]; exact (by repeat (first | exact Gr.refl _ | apply Gr.ext | apply Gr.alloc | apply Gr.drew))
      have lc0 : ∀ w' : World, Gr W w' → w'.cell? ⟨w.heap.size, 0, none⟩ = some (.slice ca0 cl0 cc0) := fun w' ⟨z, hz⟩ => by subst hz; rw [← hW]; simp
      have lc1 : ∀ w' : World, Gr W w' → w'.cell? ⟨w.heap.size, 1, none⟩ = some (.slice ca1 cl1 cc1) := fun w' ⟨z, hz⟩ => by subst hz; rw [← hW]; simp
      have lc2 : ∀ w' : World, Gr W w' → w'.cell? ⟨w.heap.size, 2, none⟩ = some (.slice ca2 cl2 cc2) := fun w' ⟨z, hz⟩ => by subst hz; rw [← hW]; simp
      have lc3 : ∀ w' : World, Gr W w' → w'.cell? ⟨w.heap.size, 3, none⟩ = some (.slice ca3 cl3 cc3) := fun w' ⟨z, hz⟩ => by subst hz; rw [← hW]; simp
      have lc4 : ∀ w' : World, Gr W w' → w'.cell? ⟨w.heap.size, 4, none⟩ = some (.slice ca4 cl4 cc4) := fun w' ⟨z, hz⟩ => by subst hz; rw [← hW]; simp
      have lc5 : ∀ w' : World, Gr W w' → w'.cell? ⟨w.heap.size, 5, none⟩ = some (.int .i64 c5) := fun w' ⟨z, hz⟩ => by subst hz; rw [← hW]; simp
      have ld0 : ∀ w' : World, Gr W w' → w'.cell? ⟨w.heap.size + 1, 0, none⟩ = some (.slice da0 dl0 dc0) := fun w' ⟨z, hz⟩ => by subst hz; rw [← hW]; simp
      have ld1 : ∀ w' : World, Gr W w' → w'.cell? ⟨w.heap.size + 1, 1, none⟩ = some (.slice da1 dl1 dc1) := fun w' ⟨z, hz⟩ => by subst hz; rw [← hW]; simp
      have ld2 : ∀ w' : World, Gr W w' → w'.cell? ⟨w.heap.size + 1, 2, none⟩ = some (.slice da2 dl2 dc2) := fun w' ⟨z, hz⟩ => by subst hz; rw [← hW]; simp
      have ld3 : ∀ w' : World, Gr W w' → w'.cell? ⟨w.heap.size + 1, 3, none⟩ = some (.slice da3 dl3 dc3) := fun w' ⟨z, hz⟩ => by subst hz; rw [← hW]; simp
      have ld4 : ∀ w' : World, Gr W w' → w'.cell? ⟨w.heap.size + 1, 4, none⟩ = some (.slice da4 dl4 dc4) := fun w' ⟨z, hz⟩ => by subst hz; rw [← hW]; simp
      have ld5 : ∀ w' : World, Gr W w' → w'.cell? ⟨w.heap.size + 1, 5, none⟩ = some (.int .i64 d5) := fun w' ⟨z, hz⟩ => by subst hz; rw [← hW]; simp
      clear hW
      go_region_held3 (fun w' => Gr W w') (first | assumption | exact Gr.drew (Gr.refl _) | exact Gr.ext (by assumption) _)
        (first
          | (go_at_call_of 6 ca0; refine (toSession_any _ _ x _ (Rd.gr hrx (gW.trans (by assumption))) hw).mono ?_; rintro e w' ⟨ds1, f1, rfl, s1, fr1, x2, rfl⟩)
          | (go_at_call_of 6 da0; refine (toSession_any _ _ y _ (Rd.gr hry (gW.trans (by assumption))) hw2).mono ?_; rintro e w' ⟨ds2, f2, rfl, s2, fr2, x3, rfl⟩)
          | (go_at_call 5; refine (specEqSession_any _ _ _ _ x y _ (Rd.gr s1 (by repeat (first | exact Gr.refl _ | apply Gr.ext | apply Gr.alloc | apply Gr.drew))) s2).mono ?_; rintro e w' ⟨rfl, x4, rfl⟩))
      have hG2 : Gr W (((W.drew.ext x2).ext x3).ext x4) := by assumption
      generalize (((W.drew.ext x2).ext x3).ext x4) = W2 at hG2 ⊢
      have gW2 : Gr w W2 := gW.trans hG2
      have kc0 := lc0 W2 hG2
      have kc1 := lc1 W2 hG2
      have kc2 := lc2 W2 hG2
      have kc3 := lc3 W2 hG2
      have kc4 := lc4 W2 hG2
      have kc5 := lc5 W2 hG2
      have kd0 := ld0 W2 hG2
      have kd1 := ld1 W2 hG2
      have kd2 := ld2 W2 hG2
      have kd3 := ld3 W2 hG2
      have kd4 := ld4 W2 hG2
      have kd5 := ld5 W2 hG2
      have z1 := blk kc0
      have z2 := blk kd0
      clear lc0 ld0 lc1 ld1 lc2 ld2 lc3 ld3 lc4 ld4 lc5 ld5 hG2 gW s1 s2 fr1 fr2
      go_wp2_with fail
      refine (toSession_any _ _ x _ (Rd.gr hrx (gW2.trans (by repeat (first | exact Gr.refl _ | apply Gr.ext | apply Gr.alloc | apply Gr.drew)))) hw).mono ?_
      rintro e w' ⟨ds3, f3, rfl, s3, fr3, x5, rfl⟩
      obtain ⟨ea0, el0, ec0, ea1, el1, ec1, ea2, el2, ec2, ea3, el3, ec3, ea4, el4, ec4, e5, rfl⟩ := rdSession_shape s3
      go_wp2_with fail
      refine (toSession_any _ _ y _ (Rd.gr hry (gW2.trans (by repeat (first | exact Gr.refl _ | apply Gr.ext | apply Gr.alloc | apply Gr.drew)))) hw2).mono ?_
      rintro e w' ⟨ds4, f4, rfl, s4, fr4, x6, rfl⟩
      obtain ⟨ua0, ul0, uc0, ua1, ul1, uc1, ua2, ul2, uc2, ua3, ul3, uc3, ua4, ul4, uc4, u5, rfl⟩ := rdSession_shape s4
      go_wp2_with fail
      refine (implEqSession_any _ _ _ _ x y _ (Rd.gr s3 (by repeat (first | exact Gr.refl _ | apply Gr.ext | apply Gr.alloc | apply Gr.drew))) (Rd.gr s4 (by repeat (first | exact Gr.refl _ | apply Gr.ext | apply Gr.alloc | apply Gr.drew)))).mono ?_
      rintro e w' ⟨rfl, x7, rfl⟩
      go_wp2_with fail
      generalize hW : ((((W2.ext x5).alloc (Obj.cells #[.slice ea0 el0 ec0, .slice ea1 el1 ec1, .slice ea2 el2 ec2, .slice ea3 el3 ec3, .slice ea4 el4 ec4, .int .i64 e5] 49)).ext x6).alloc (Obj.cells #[.slice ua0 ul0 uc0, .slice ua1 ul1 uc1, .slice ua2 ul2 uc2, .slice ua3 ul3 uc3, .slice ua4 ul4 uc4, .int .i64 u5] 49)).ext x7 = W3
      have g3 : Gr W2 W3 := by rw [← hW]; exact (by repeat (first | exact Gr.refl _ | apply Gr.ext | apply Gr.alloc | apply Gr.drew))
      have gE : Gr (W2.ext x5) W3 := by rw [← hW]; exact (by repeat (first | exact Gr.refl _ | apply Gr.ext | apply Gr.alloc | apply Gr.drew))
      have gBE : Gr ((W2.ext x5).alloc (Obj.cells #[.slice ea0 el0 ec0, .slice ea1 el1 ec1, .slice ea2 el2 ec2, .slice ea3 el3 ec3, .slice ea4 el4 ec4, .int .i64 e5] 49)) W3 := by rw [← hW]; exact (by repeat (first | exact Gr.refl _ | apply Gr.ext | apply Gr.alloc | apply Gr.drew))
      have gG : Gr (((W2.ext x5).alloc (Obj.cells #[.slice ea0 el0 ec0, .slice ea1 el1 ec1, .slice ea2 el2 ec2, .slice ea3 el3 ec3, .slice ea4 el4 ec4, .int .i64 e5] 49)).ext x6) W3 := by rw [← hW]; exact (by repeat (first | exact Gr.refl _ | apply Gr.ext | apply Gr.alloc | apply Gr.drew))
      have gBG : Gr ((((W2.ext x5).alloc (Obj.cells #[.slice ea0 el0 ec0, .slice ea1 el1 ec1, .slice ea2 el2 ec2, .slice ea3 el3 ec3, .slice ea4 el4 ec4, .int .i64 e5] 49)).ext x6).alloc (Obj.cells #[.slice ua0 ul0 uc0, .slice ua1 ul1 uc1, .slice ua2 ul2 uc2, .slice ua3 ul3 uc3, .slice ua4 ul4 uc4, .int .i64 u5] 49)) W3 := by rw [← hW]; exact (by repeat (first | exact Gr.refl _ | apply Gr.ext | apply Gr.alloc | apply Gr.drew))
      have gW3 : Gr w W3 := gW2.trans g3
      have r3 := Rd.gr s3 gE
      have r4 := Rd.gr s4 gG
      have kck0 : ∀ w' : World, Gr W3 w' → w'.cell? ⟨w.heap.size, 0, none⟩ = some (.slice ca0 cl0 cc0) := fun w' h => (g3.trans h).keep kc0
      have kck1 : ∀ w' : World, Gr W3 w' → w'.cell? ⟨w.heap.size, 1, none⟩ = some (.slice ca1 cl1 cc1) := fun w' h => (g3.trans h).keep kc1
      have kck2 : ∀ w' : World, Gr W3 w' → w'.cell? ⟨w.heap.size, 2, none⟩ = some (.slice ca2 cl2 cc2) := fun w' h => (g3.trans h).keep kc2
      have kck3 : ∀ w' : World, Gr W3 w' → w'.cell? ⟨w.heap.size, 3, none⟩ = some (.slice ca3 cl3 cc3) := fun w' h => (g3.trans h).keep kc3
      have kck4 : ∀ w' : World, Gr W3 w' → w'.cell? ⟨w.heap.size, 4, none⟩ = some (.slice ca4 cl4 cc4) := fun w' h => (g3.trans h).keep kc4
      have kck5 : ∀ w' : World, Gr W3 w' → w'.cell? ⟨w.heap.size, 5, none⟩ = some (.int .i64 c5) := fun w' h => (g3.trans h).keep kc5
      have kdk0 : ∀ w' : World, Gr W3 w' → w'.cell? ⟨w.heap.size + 1, 0, none⟩ = some (.slice da0 dl0 dc0) := fun w' h => (g3.trans h).keep kd0
      have kdk1 : ∀ w' : World, Gr W3 w' → w'.cell? ⟨w.heap.size + 1, 1, none⟩ = some (.slice da1 dl1 dc1) := fun w' h => (g3.trans h).keep kd1
      have kdk2 : ∀ w' : World, Gr W3 w' → w'.cell? ⟨w.heap.size + 1, 2, none⟩ = some (.slice da2 dl2 dc2) := fun w' h => (g3.trans h).keep kd2
      have kdk3 : ∀ w' : World, Gr W3 w' → w'.cell? ⟨w.heap.size + 1, 3, none⟩ = some (.slice da3 dl3 dc3) := fun w' h => (g3.trans h).keep kd3
      have kdk4 : ∀ w' : World, Gr W3 w' → w'.cell? ⟨w.heap.size + 1, 4, none⟩ = some (.slice da4 dl4 dc4) := fun w' h => (g3.trans h).keep kd4
      have kdk5 : ∀ w' : World, Gr W3 w' → w'.cell? ⟨w.heap.size + 1, 5, none⟩ = some (.int .i64 d5) := fun w' h => (g3.trans h).keep kd5
      have kek0 : ∀ w' : World, Gr W3 w' → w'.cell? ⟨W2.heap.size + x5.objs.size, 0, none⟩ = some (.slice ea0 el0 ec0) := fun w' h => (gBE.trans h).keep (box_cell (by simp) rfl)
      have kek1 : ∀ w' : World, Gr W3 w' → w'.cell? ⟨W2.heap.size + x5.objs.size, 1, none⟩ = some (.slice ea1 el1 ec1) := fun w' h => (gBE.trans h).keep (box_cell (by simp) rfl)
      have kek2 : ∀ w' : World, Gr W3 w' → w'.cell? ⟨W2.heap.size + x5.objs.size, 2, none⟩ = some (.slice ea2 el2 ec2) := fun w' h => (gBE.trans h).keep (box_cell (by simp) rfl)
      have kek3 : ∀ w' : World, Gr W3 w' → w'.cell? ⟨W2.heap.size + x5.objs.size, 3, none⟩ = some (.slice ea3 el3 ec3) := fun w' h => (gBE.trans h).keep (box_cell (by simp) rfl)
      have kek4 : ∀ w' : World, Gr W3 w' → w'.cell? ⟨W2.heap.size + x5.objs.size, 4, none⟩ = some (.slice ea4 el4 ec4) := fun w' h => (gBE.trans h).keep (box_cell (by simp) rfl)
      have kek5 : ∀ w' : World, Gr W3 w' → w'.cell? ⟨W2.heap.size + x5.objs.size, 5, none⟩ = some (.int .i64 e5) := fun w' h => (gBE.trans h).keep (box_cell (by simp) rfl)
      have kuk0 : ∀ w' : World, Gr W3 w' → w'.cell? ⟨W2.heap.size + x5.objs.size + 1 + x6.objs.size, 0, none⟩ = some (.slice ua0 ul0 uc0) := fun w' h => (gBG.trans h).keep (box_cell (by simp) rfl)
      have kuk1 : ∀ w' : World, Gr W3 w' → w'.cell? ⟨W2.heap.size + x5.objs.size + 1 + x6.objs.size, 1, none⟩ = some (.slice ua1 ul1 uc1) := fun w' h => (gBG.trans h).keep (box_cell (by simp) rfl)
      have kuk2 : ∀ w' : World, Gr W3 w' → w'.cell? ⟨W2.heap.size + x5.objs.size + 1 + x6.objs.size, 2, none⟩ = some (.slice ua2 ul2 uc2) := fun w' h => (gBG.trans h).keep (box_cell (by simp) rfl)
      have kuk3 : ∀ w' : World, Gr W3 w' → w'.cell? ⟨W2.heap.size + x5.objs.size + 1 + x6.objs.size, 3, none⟩ = some (.slice ua3 ul3 uc3) := fun w' h => (gBG.trans h).keep (box_cell (by simp) rfl)
      have kuk4 : ∀ w' : World, Gr W3 w' → w'.cell? ⟨W2.heap.size + x5.objs.size + 1 + x6.objs.size, 4, none⟩ = some (.slice ua4 ul4 uc4) := fun w' h => (gBG.trans h).keep (box_cell (by simp) rfl)
      have kuk5 : ∀ w' : World, Gr W3 w' → w'.cell? ⟨W2.heap.size + x5.objs.size + 1 + x6.objs.size, 5, none⟩ = some (.int .i64 u5) := fun w' h => (gBG.trans h).keep (box_cell (by simp) rfl)
      clear hW
      go_region_held3 (fun w' => Gr W3 w') (first | assumption | exact Gr.drew (Gr.refl _) | exact Gr.ext (by assumption) _)
        (first
          | (go_at_call_of 6 ca0; refine (toSession_any _ _ x _ (Rd.gr hrx (gW3.trans (by assumption))) hw).mono ?_; rintro e w' ⟨ds5, f5, rfl, s5, fr5, x8, rfl⟩)
          | (go_at_call 8; refine (eqSession_any _ _ _ _ x x _ (Rd.gr r3 (by assumption)) s5).mono ?_; rintro e w' ⟨rfl, x9, rfl⟩; rw [decide_eq_true rfl]))
      have hG4 : Gr W3 ((W3.drew.ext x8).ext x9) := by assumption
      generalize hB : (W3.drew.ext x8).ext x9 = W4 at hG4 ⊢
      have gW4 : Gr w W4 := gW3.trans hG4
      have r5 := Rd.gr r4 hG4
      have kdkk0 : ∀ w' : World, Gr W4 w' → w'.cell? ⟨w.heap.size + 1, 0, none⟩ = some (.slice da0 dl0 dc0) := fun w' h => kdk0 w' (hG4.trans h)
      have kdkk1 : ∀ w' : World, Gr W4 w' → w'.cell? ⟨w.heap.size + 1, 1, none⟩ = some (.slice da1 dl1 dc1) := fun w' h => kdk1 w' (hG4.trans h)
      have kdkk2 : ∀ w' : World, Gr W4 w' → w'.cell? ⟨w.heap.size + 1, 2, none⟩ = some (.slice da2 dl2 dc2) := fun w' h => kdk2 w' (hG4.trans h)
      have kdkk3 : ∀ w' : World, Gr W4 w' → w'.cell? ⟨w.heap.size + 1, 3, none⟩ = some (.slice da3 dl3 dc3) := fun w' h => kdk3 w' (hG4.trans h)
      have kdkk4 : ∀ w' : World, Gr W4 w' → w'.cell? ⟨w.heap.size + 1, 4, none⟩ = some (.slice da4 dl4 dc4) := fun w' h => kdk4 w' (hG4.trans h)
      have kdkk5 : ∀ w' : World, Gr W4 w' → w'.cell? ⟨w.heap.size + 1, 5, none⟩ = some (.int .i64 d5) := fun w' h => kdk5 w' (hG4.trans h)
      have kukk0 : ∀ w' : World, Gr W4 w' → w'.cell? ⟨W2.heap.size + x5.objs.size + 1 + x6.objs.size, 0, none⟩ = some (.slice ua0 ul0 uc0) := fun w' h => kuk0 w' (hG4.trans h)
      have kukk1 : ∀ w' : World, Gr W4 w' → w'.cell? ⟨W2.heap.size + x5.objs.size + 1 + x6.objs.size, 1, none⟩ = some (.slice ua1 ul1 uc1) := fun w' h => kuk1 w' (hG4.trans h)
      have kukk2 : ∀ w' : World, Gr W4 w' → w'.cell? ⟨W2.heap.size + x5.objs.size + 1 + x6.objs.size, 2, none⟩ = some (.slice ua2 ul2 uc2) := fun w' h => kuk2 w' (hG4.trans h)
      have kukk3 : ∀ w' : World, Gr W4 w' → w'.cell? ⟨W2.heap.size + x5.objs.size + 1 + x6.objs.size, 3, none⟩ = some (.slice ua3 ul3 uc3) := fun w' h => kuk3 w' (hG4.trans h)
      have kukk4 : ∀ w' : World, Gr W4 w' → w'.cell? ⟨W2.heap.size + x5.objs.size + 1 + x6.objs.size, 4, none⟩ = some (.slice ua4 ul4 uc4) := fun w' h => kuk4 w' (hG4.trans h)
      have kukk5 : ∀ w' : World, Gr W4 w' → w'.cell? ⟨W2.heap.size + x5.objs.size + 1 + x6.objs.size, 5, none⟩ = some (.int .i64 u5) := fun w' h => kuk5 w' (hG4.trans h)
      clear kck0 kdk0 kek0 kuk0 kck1 kdk1 kek1 kuk1 kck2 kdk2 kek2 kuk2 kck3 kdk3 kek3 kuk3 kck4 kdk4 kek4 kuk4 kck5 kdk5 kek5 kuk5 hB
      go_wp2_with fail
      go_region_held3 (fun w' => Gr W4 w') (first | assumption | exact Gr.drew (Gr.refl _) | exact Gr.ext (by assumption) _)
        (first
          | (go_at_call_of 6 da0; refine (toSession_any _ _ y _ (Rd.gr hry (gW4.trans (by assumption))) hw2).mono ?_; rintro e w' ⟨ds6, f6, rfl, s6, fr6, x10, rfl⟩)
          | (go_at_call 8; refine (eqSession_any _ _ _ _ y y _ (Rd.gr r5 (by assumption)) s6).mono ?_; rintro e w' ⟨rfl, x11, rfl⟩; rw [decide_eq_true rfl]))
      have hG5 : Gr W4 ((W4.drew.ext x10).ext x11) := by assumption
      go_wp2_with fail
      go_ret
      exact ⟨rfl, gW4.trans hG5⟩
end Go.Proofs.YtmdiabjaggadjaaGreat
