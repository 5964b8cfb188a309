/- The walk of the statement on FnExactEqualMemo. Made by mk_law2.py. No condition. -/
import Derived.Test.YtdebnmambbmebaaMemoD
import Derived.Deep.RegionHeld3
namespace Go.Proofs.Ytdebnmambbmebaa
open Go.RowKit

set_option maxRecDepth 10000 in
set_option maxHeartbeats 8000000 in
theorem lawEqMemo_any (fp fq : List Nat) (cs ds : Array Value) (x y : GMemo) (w : World) (hx : Rd.rd fp w cs.toList x) (hy : Rd.rd fq w ds.toList y) :
    Calls Try.prog 13 #[.agg cs, .agg ds] w fun e w' => e = .returned (.bool true) ∧ Gr w w' := by
  have hrx := hx
  have hry := hy
  obtain ⟨ca0, cl0, cc0, ca1, cl1, cc1, rfl⟩ := rdMemo_shape hx
  obtain ⟨da0, dl0, dc0, da1, dl1, dc1, rfl⟩ := rdMemo_shape hy
  by_cases hn : less 1048576 (wtMemo x) < 0
  · have HN := Lib.hid hn
    clear hn
    go_enter Try.func13, Try.ntmps13
    go_wp2_with fail
    refine (szMemo_any _ _ x _ _ (Rd.gr hrx (by repeat (first | exact Gr.refl _ | apply Gr.ext | apply Gr.alloc | apply Gr.drew))) (by omega) (by omega)).mono ?_
    rintro e w' ⟨rfl, x0, rfl⟩
    have hn := HN.out
    go_wp2_with fail
    go_ret
    exact ⟨rfl, (by repeat (first | exact Gr.refl _ | apply Gr.ext | apply Gr.alloc | apply Gr.drew))⟩
  · have hw : wtMemo x ≤ 1048576 := by unfold less at hn; split at hn <;> omega
    have hb := less_le 1048576 (wtMemo x) (by omega)
    by_cases hm : less (less 1048576 (wtMemo x)) (wtMemo y) < 0
    · have HN := Lib.hid hn
      have HM := Lib.hid hm
      clear hn hm
      go_enter Try.func13, Try.ntmps13
      go_wp2_with fail
      refine (szMemo_any _ _ x _ _ (Rd.gr hrx (by repeat (first | exact Gr.refl _ | apply Gr.ext | apply Gr.alloc | apply Gr.drew))) (by omega) (by omega)).mono ?_
      rintro e w' ⟨rfl, x0, rfl⟩
      have hn := HN.out
      go_wp2_with fail
      refine (szMemo_any _ _ y _ _ (Rd.gr hry (by repeat (first | exact Gr.refl _ | apply Gr.ext | apply Gr.alloc | apply Gr.drew))) (by omega) (by omega)).mono ?_
      rintro e w' ⟨rfl, x1, rfl⟩
      have hm := HM.out
      go_wp2_with fail
      go_ret
      exact ⟨rfl, (by repeat (first | exact Gr.refl _ | apply Gr.ext | apply Gr.alloc | apply Gr.drew))⟩
    · have hw2 : wtMemo y ≤ 1048576 := by unfold less at hm; split at hm <;> split at hm <;> omega
      have HN := Lib.hid hn
      have HM := Lib.hid hm
      clear hn hm
      go_enter Try.func13, Try.ntmps13
      go_wp2_with fail
      refine (szMemo_any _ _ x _ _ (Rd.gr hrx (by repeat (first | exact Gr.refl _ | apply Gr.ext | apply Gr.alloc | apply Gr.drew))) (by omega) (by omega)).mono ?_
      rintro e w' ⟨rfl, x0, rfl⟩
      have hn := HN.out
      go_wp2_with fail
      refine (szMemo_any _ _ y _ _ (Rd.gr hry (by repeat (first | exact Gr.refl _ | apply Gr.ext | apply Gr.alloc | apply Gr.drew))) (by omega) (by omega)).mono ?_
      rintro e w' ⟨rfl, x1, rfl⟩
      have hm := HM.out
      clear hn
      go_wp2_with fail
      clear hm
      generalize hW : ((((w.alloc (Obj.cells #[.slice ca0 cl0 cc0, .slice ca1 cl1 cc1] 66)).alloc (Obj.cells #[.slice da0 dl0 dc0, .slice da1 dl1 dc1] 66)).ext x0).ext x1) = W
      have gW : Gr w W := by rw [← hW]; exact (by repeat (first | exact Gr.refl _ | apply Gr.ext | apply Gr.alloc | apply Gr.drew))
      have lc0 : ∀ w' : World, Gr W w' → w'.cell? ⟨w.heap.size, 0, none⟩ = some (.slice ca0 cl0 cc0) := fun w' ⟨z, hz⟩ => by subst hz; rw [← hW]; simp
      have lc1 : ∀ w' : World, Gr W w' → w'.cell? ⟨w.heap.size, 1, none⟩ = some (.slice ca1 cl1 cc1) := fun w' ⟨z, hz⟩ => by subst hz; rw [← hW]; simp
      have ld0 : ∀ w' : World, Gr W w' → w'.cell? ⟨w.heap.size + 1, 0, none⟩ = some (.slice da0 dl0 dc0) := fun w' ⟨z, hz⟩ => by subst hz; rw [← hW]; simp
      have ld1 : ∀ w' : World, Gr W w' → w'.cell? ⟨w.heap.size + 1, 1, none⟩ = some (.slice da1 dl1 dc1) := fun w' ⟨z, hz⟩ => by subst hz; rw [← hW]; simp
      clear hW
      go_region_held3 (fun w' => Gr W w') (first | assumption | exact Gr.drew (Gr.refl _) | exact Gr.ext (by assumption) _)
        (first
          | (go_at_call_of 50 ca0; refine (toMemo_any _ _ x _ (Rd.gr hrx (gW.trans (by assumption))) hw).mono ?_; rintro e w' ⟨ds1, f1, rfl, s1, fr1, x2, rfl⟩)
          | (go_at_call_of 50 da0; refine (toMemo_any _ _ y _ (Rd.gr hry (gW.trans (by assumption))) hw2).mono ?_; rintro e w' ⟨ds2, f2, rfl, s2, fr2, x3, rfl⟩)
          | (go_at_call 53; refine (specEqMemo_any _ _ _ _ x y _ (Rd.gr s1 (by repeat (first | exact Gr.refl _ | apply Gr.ext | apply Gr.alloc | apply Gr.drew))) s2).mono ?_; rintro e w' ⟨rfl, x4, rfl⟩))
      have hG2 : Gr W (((W.drew.ext x2).ext x3).ext x4) := by assumption
      generalize (((W.drew.ext x2).ext x3).ext x4) = W2 at hG2 ⊢
      have gW2 : Gr w W2 := gW.trans hG2
      have kc0 := lc0 W2 hG2
      have kc1 := lc1 W2 hG2
      have kd0 := ld0 W2 hG2
      have kd1 := ld1 W2 hG2
      have z1 := blk kc0
      have z2 := blk kd0
      clear lc0 ld0 lc1 ld1 hG2 gW s1 s2 fr1 fr2
      go_wp2_with fail
      refine (toMemo_any _ _ x _ (Rd.gr hrx (gW2.trans (by repeat (first | exact Gr.refl _ | apply Gr.ext | apply Gr.alloc | apply Gr.drew)))) hw).mono ?_
      rintro e w' ⟨ds3, f3, rfl, s3, fr3, x5, rfl⟩
      obtain ⟨ea0, el0, ec0, ea1, el1, ec1, rfl⟩ := rdMemo_shape s3
      go_wp2_with fail
      refine (toMemo_any _ _ y _ (Rd.gr hry (gW2.trans (by repeat (first | exact Gr.refl _ | apply Gr.ext | apply Gr.alloc | apply Gr.drew)))) hw2).mono ?_
      rintro e w' ⟨ds4, f4, rfl, s4, fr4, x6, rfl⟩
      obtain ⟨ua0, ul0, uc0, ua1, ul1, uc1, rfl⟩ := rdMemo_shape s4
      go_wp2_with fail
      refine (implEqMemo_any _ _ _ _ x y _ (Rd.gr s3 (by repeat (first | exact Gr.refl _ | apply Gr.ext | apply Gr.alloc | apply Gr.drew))) (Rd.gr s4 (by repeat (first | exact Gr.refl _ | apply Gr.ext | apply Gr.alloc | apply Gr.drew)))).mono ?_
      rintro e w' ⟨rfl, x7, rfl⟩
      go_wp2_with fail
      generalize hW : ((((W2.ext x5).alloc (Obj.cells #[.slice ea0 el0 ec0, .slice ea1 el1 ec1] 72)).ext x6).alloc (Obj.cells #[.slice ua0 ul0 uc0, .slice ua1 ul1 uc1] 72)).ext x7 = W3
      have g3 : Gr W2 W3 := by rw [← hW]; exact (by repeat (first | exact Gr.refl _ | apply Gr.ext | apply Gr.alloc | apply Gr.drew))
      have gE : Gr (W2.ext x5) W3 := by rw [← hW]; exact (by repeat (first | exact Gr.refl _ | apply Gr.ext | apply Gr.alloc | apply Gr.drew))
      have gBE : Gr ((W2.ext x5).alloc (Obj.cells #[.slice ea0 el0 ec0, .slice ea1 el1 ec1] 72)) W3 := by rw [← hW]; exact (by repeat (first | exact Gr.refl _ | apply Gr.ext | apply Gr.alloc | apply Gr.drew))
      have gG : Gr (((W2.ext x5).alloc (Obj.cells #[.slice ea0 el0 ec0, .slice ea1 el1 ec1] 72)).ext x6) W3 := by rw [← hW]; exact (by repeat (first | exact Gr.refl _ | apply Gr.ext | apply Gr.alloc | apply Gr.drew))
      have gBG : Gr ((((W2.ext x5).alloc (Obj.cells #[.slice ea0 el0 ec0, .slice ea1 el1 ec1] 72)).ext x6).alloc (Obj.cells #[.slice ua0 ul0 uc0, .slice ua1 ul1 uc1] 72)) W3 := by rw [← hW]; exact (by repeat (first | exact Gr.refl _ | apply Gr.ext | apply Gr.alloc | apply Gr.drew))
      have gW3 : Gr w W3 := gW2.trans g3
      have r3 := Rd.gr s3 gE
      have r4 := Rd.gr s4 gG
      have kck0 : ∀ w' : World, Gr W3 w' → w'.cell? ⟨w.heap.size, 0, none⟩ = some (.slice ca0 cl0 cc0) := fun w' h => (g3.trans h).keep kc0
      have kck1 : ∀ w' : World, Gr W3 w' → w'.cell? ⟨w.heap.size, 1, none⟩ = some (.slice ca1 cl1 cc1) := fun w' h => (g3.trans h).keep kc1
      have kdk0 : ∀ w' : World, Gr W3 w' → w'.cell? ⟨w.heap.size + 1, 0, none⟩ = some (.slice da0 dl0 dc0) := fun w' h => (g3.trans h).keep kd0
      have kdk1 : ∀ w' : World, Gr W3 w' → w'.cell? ⟨w.heap.size + 1, 1, none⟩ = some (.slice da1 dl1 dc1) := fun w' h => (g3.trans h).keep kd1
      have kek0 : ∀ w' : World, Gr W3 w' → w'.cell? ⟨W2.heap.size + x5.objs.size, 0, none⟩ = some (.slice ea0 el0 ec0) := fun w' h => (gBE.trans h).keep (box_cell (by simp) rfl)
      have kek1 : ∀ w' : World, Gr W3 w' → w'.cell? ⟨W2.heap.size + x5.objs.size, 1, none⟩ = some (.slice ea1 el1 ec1) := fun w' h => (gBE.trans h).keep (box_cell (by simp) rfl)
      have kuk0 : ∀ w' : World, Gr W3 w' → w'.cell? ⟨W2.heap.size + x5.objs.size + 1 + x6.objs.size, 0, none⟩ = some (.slice ua0 ul0 uc0) := fun w' h => (gBG.trans h).keep (box_cell (by simp) rfl)
      have kuk1 : ∀ w' : World, Gr W3 w' → w'.cell? ⟨W2.heap.size + x5.objs.size + 1 + x6.objs.size, 1, none⟩ = some (.slice ua1 ul1 uc1) := fun w' h => (gBG.trans h).keep (box_cell (by simp) rfl)
      clear hW
      go_region_held3 (fun w' => Gr W3 w') (first | assumption | exact Gr.drew (Gr.refl _) | exact Gr.ext (by assumption) _)
        (first
          | (go_at_call_of 50 ca0; refine (toMemo_any _ _ x _ (Rd.gr hrx (gW3.trans (by assumption))) hw).mono ?_; rintro e w' ⟨ds5, f5, rfl, s5, fr5, x8, rfl⟩)
          | (go_at_call 52; refine (eqMemo_any _ _ _ _ x x _ (Rd.gr r3 (by assumption)) s5).mono ?_; rintro e w' ⟨rfl, x9, rfl⟩; rw [decide_eq_true rfl]))
      have hG4 : Gr W3 ((W3.drew.ext x8).ext x9) := by assumption
      generalize hB : (W3.drew.ext x8).ext x9 = W4 at hG4 ⊢
      have gW4 : Gr w W4 := gW3.trans hG4
      have r5 := Rd.gr r4 hG4
      have kdkk0 : ∀ w' : World, Gr W4 w' → w'.cell? ⟨w.heap.size + 1, 0, none⟩ = some (.slice da0 dl0 dc0) := fun w' h => kdk0 w' (hG4.trans h)
      have kdkk1 : ∀ w' : World, Gr W4 w' → w'.cell? ⟨w.heap.size + 1, 1, none⟩ = some (.slice da1 dl1 dc1) := fun w' h => kdk1 w' (hG4.trans h)
      have kukk0 : ∀ w' : World, Gr W4 w' → w'.cell? ⟨W2.heap.size + x5.objs.size + 1 + x6.objs.size, 0, none⟩ = some (.slice ua0 ul0 uc0) := fun w' h => kuk0 w' (hG4.trans h)
      have kukk1 : ∀ w' : World, Gr W4 w' → w'.cell? ⟨W2.heap.size + x5.objs.size + 1 + x6.objs.size, 1, none⟩ = some (.slice ua1 ul1 uc1) := fun w' h => kuk1 w' (hG4.trans h)
      clear kck0 kdk0 kek0 kuk0 kck1 kdk1 kek1 kuk1 hB
      go_wp2_with fail
      go_region_held3 (fun w' => Gr W4 w') (first | assumption | exact Gr.drew (Gr.refl _) | exact Gr.ext (by assumption) _)
        (first
          | (go_at_call_of 50 da0; refine (toMemo_any _ _ y _ (Rd.gr hry (gW4.trans (by assumption))) hw2).mono ?_; rintro e w' ⟨ds6, f6, rfl, s6, fr6, x10, rfl⟩)
          | (go_at_call 52; refine (eqMemo_any _ _ _ _ y y _ (Rd.gr r5 (by assumption)) s6).mono ?_; rintro e w' ⟨rfl, x11, rfl⟩; rw [decide_eq_true rfl]))
      have hG5 : Gr W4 ((W4.drew.ext x10).ext x11) := by assumption
      go_wp2_with fail
      go_ret
      exact ⟨rfl, gW4.trans hG5⟩
end Go.Proofs.Ytdebnmambbmebaa
