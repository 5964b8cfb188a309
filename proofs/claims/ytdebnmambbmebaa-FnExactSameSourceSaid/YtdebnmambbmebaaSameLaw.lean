/- The walk of the statement on SameSource. No condition. -/
import Derived.Test.YtdebnmambbmebaaSame
import Derived.Deep.RegionHeld3
namespace Go.Proofs.Ytdebnmambbmebaa
open Go.RowKit

set_option maxRecDepth 10000 in
set_option maxHeartbeats 8000000 in
theorem lawSame_any (fp fq : List Nat) (cs ds : Array Value) (x y : GEntry) (w : World) (hx : Rd.rd fp w cs.toList x) (hy : Rd.rd fq w ds.toList y) :
    Calls Try.prog 8 #[.agg cs, .agg ds] w fun e w' => e = .returned (.bool true) ∧ Gr w w' := by
  have hrx := hx
  have hry := hy
  obtain ⟨c0, c1, c2, c3, c4, c5, a6, l6, c6, a7, l7, c7, a8, l8, c8, rfl⟩ := rdEntry_shape hx
  obtain ⟨d0, d1, d2, d3, d4, d5, b6, m6, d6, b7, m7, d7, b8, m8, d8, rfl⟩ := rdEntry_shape hy
  by_cases hn : less 1048576 (wtEntry x) < 0
  · have HN := Lib.hid hn
    clear hn
    go_enter Try.func8, Try.ntmps8
    go_wp2_with fail
    refine (szEntry_any _ _ x _ _ (Rd.gr hrx (by repeat (first | exact Gr.refl _ | apply Gr.ext | apply Gr.alloc | apply Gr.drew))) (by omega) (by omega)).mono ?_
    rintro e w' ⟨rfl, x0, rfl⟩
    have hn := HN.out
    go_wp2_with fail
    go_ret
    exact ⟨rfl, (by repeat (first | exact Gr.refl _ | apply Gr.ext | apply Gr.alloc | apply Gr.drew))⟩
  · have hw : wtEntry x ≤ 1048576 := by unfold less at hn; split at hn <;> omega
    have hb := less_le 1048576 (wtEntry x) (by omega)
    by_cases hm : less (less 1048576 (wtEntry x)) (wtEntry y) < 0
    · have HN := Lib.hid hn
      have HM := Lib.hid hm
      clear hn hm
      go_enter Try.func8, Try.ntmps8
      go_wp2_with fail
      refine (szEntry_any _ _ x _ _ (Rd.gr hrx (by repeat (first | exact Gr.refl _ | apply Gr.ext | apply Gr.alloc | apply Gr.drew))) (by omega) (by omega)).mono ?_
      rintro e w' ⟨rfl, x0, rfl⟩
      have hn := HN.out
      go_wp2_with fail
      refine (szEntry_any _ _ y _ _ (Rd.gr hry (by repeat (first | exact Gr.refl _ | apply Gr.ext | apply Gr.alloc | apply Gr.drew))) (by omega) (by omega)).mono ?_
      rintro e w' ⟨rfl, x1, rfl⟩
      have hm := HM.out
      go_wp2_with fail
      go_ret
      exact ⟨rfl, (by repeat (first | exact Gr.refl _ | apply Gr.ext | apply Gr.alloc | apply Gr.drew))⟩
    · have hw2 : wtEntry y ≤ 1048576 := by unfold less at hm; split at hm <;> split at hm <;> omega
      have HN := Lib.hid hn
      have HM := Lib.hid hm
      clear hn hm
      go_enter Try.func8, Try.ntmps8
      go_wp2_with fail
      refine (szEntry_any _ _ x _ _ (Rd.gr hrx (by repeat (first | exact Gr.refl _ | apply Gr.ext | apply Gr.alloc | apply Gr.drew))) (by omega) (by omega)).mono ?_
      rintro e w' ⟨rfl, x0, rfl⟩
      have hn := HN.out
      go_wp2_with fail
      refine (szEntry_any _ _ y _ _ (Rd.gr hry (by repeat (first | exact Gr.refl _ | apply Gr.ext | apply Gr.alloc | apply Gr.drew))) (by omega) (by omega)).mono ?_
      rintro e w' ⟨rfl, x1, rfl⟩
      have hm := HM.out
      clear hn
      go_wp2_with fail
      clear hm
      generalize hW : (((w.alloc (Obj.cells #[.int .i64 c0, .string c1, .int .i64 c2, .int .i64 c3, .int .i64 c4, .string c5, .slice a6 l6 c6, .slice a7 l7 c7, .slice a8 l8 c8] 47)).alloc (Obj.cells #[.int .i64 d0, .string d1, .int .i64 d2, .int .i64 d3, .int .i64 d4, .string d5, .slice b6 m6 d6, .slice b7 m7 d7, .slice b8 m8 d8] 47)).ext x0).ext x1 = W
      have gW : Gr w W := by rw [← hW]; exact (by repeat (first | exact Gr.refl _ | apply Gr.ext | apply Gr.alloc | apply Gr.drew))
      have l0 : ∀ w' : World, Gr W w' → w'.cell? ⟨w.heap.size, 0, none⟩ = some (.int .i64 c0) := fun w' ⟨z, hz⟩ => by subst hz; rw [← hW]; simp
      have l1 : ∀ w' : World, Gr W w' → w'.cell? ⟨w.heap.size, 1, none⟩ = some (.string c1) := fun w' ⟨z, hz⟩ => by subst hz; rw [← hW]; simp
      have l2 : ∀ w' : World, Gr W w' → w'.cell? ⟨w.heap.size, 2, none⟩ = some (.int .i64 c2) := fun w' ⟨z, hz⟩ => by subst hz; rw [← hW]; simp
      have l3 : ∀ w' : World, Gr W w' → w'.cell? ⟨w.heap.size, 3, none⟩ = some (.int .i64 c3) := fun w' ⟨z, hz⟩ => by subst hz; rw [← hW]; simp
      have l4 : ∀ w' : World, Gr W w' → w'.cell? ⟨w.heap.size, 4, none⟩ = some (.int .i64 c4) := fun w' ⟨z, hz⟩ => by subst hz; rw [← hW]; simp
      have l5 : ∀ w' : World, Gr W w' → w'.cell? ⟨w.heap.size, 5, none⟩ = some (.string c5) := fun w' ⟨z, hz⟩ => by subst hz; rw [← hW]; simp
      have ll6 : ∀ w' : World, Gr W w' → w'.cell? ⟨w.heap.size, 6, none⟩ = some (.slice a6 l6 c6) := fun w' ⟨z, hz⟩ => by subst hz; rw [← hW]; simp
      have ll7 : ∀ w' : World, Gr W w' → w'.cell? ⟨w.heap.size, 7, none⟩ = some (.slice a7 l7 c7) := fun w' ⟨z, hz⟩ => by subst hz; rw [← hW]; simp
      have ll8 : ∀ w' : World, Gr W w' → w'.cell? ⟨w.heap.size, 8, none⟩ = some (.slice a8 l8 c8) := fun w' ⟨z, hz⟩ => by subst hz; rw [← hW]; simp
      have m0 : ∀ w' : World, Gr W w' → w'.cell? ⟨w.heap.size + 1, 0, none⟩ = some (.int .i64 d0) := fun w' ⟨z, hz⟩ => by subst hz; rw [← hW]; simp
      have m1 : ∀ w' : World, Gr W w' → w'.cell? ⟨w.heap.size + 1, 1, none⟩ = some (.string d1) := fun w' ⟨z, hz⟩ => by subst hz; rw [← hW]; simp
      have m2 : ∀ w' : World, Gr W w' → w'.cell? ⟨w.heap.size + 1, 2, none⟩ = some (.int .i64 d2) := fun w' ⟨z, hz⟩ => by subst hz; rw [← hW]; simp
      have m3 : ∀ w' : World, Gr W w' → w'.cell? ⟨w.heap.size + 1, 3, none⟩ = some (.int .i64 d3) := fun w' ⟨z, hz⟩ => by subst hz; rw [← hW]; simp
      have m4 : ∀ w' : World, Gr W w' → w'.cell? ⟨w.heap.size + 1, 4, none⟩ = some (.int .i64 d4) := fun w' ⟨z, hz⟩ => by subst hz; rw [← hW]; simp
      have m5 : ∀ w' : World, Gr W w' → w'.cell? ⟨w.heap.size + 1, 5, none⟩ = some (.string d5) := fun w' ⟨z, hz⟩ => by subst hz; rw [← hW]; simp
      have mm6 : ∀ w' : World, Gr W w' → w'.cell? ⟨w.heap.size + 1, 6, none⟩ = some (.slice b6 m6 d6) := fun w' ⟨z, hz⟩ => by subst hz; rw [← hW]; simp
      have mm7 : ∀ w' : World, Gr W w' → w'.cell? ⟨w.heap.size + 1, 7, none⟩ = some (.slice b7 m7 d7) := fun w' ⟨z, hz⟩ => by subst hz; rw [← hW]; simp
      have mm8 : ∀ w' : World, Gr W w' → w'.cell? ⟨w.heap.size + 1, 8, none⟩ = some (.slice b8 m8 d8) := fun w' ⟨z, hz⟩ => by subst hz; rw [← hW]; simp
      clear hW
      go_region_held3 (fun w' => Gr W w') (first | assumption | exact Gr.drew (Gr.refl _) | exact Gr.ext (by assumption) _)
        (first
          | (go_at_call_of 35 c0; refine (toEntry_any _ _ x _ (Rd.gr hrx (gW.trans (by assumption))) hw).mono ?_; rintro e w' ⟨ds1, f1, rfl, s1, fr1, x2, rfl⟩)
          | (go_at_call_of 35 d0; refine (toEntry_any _ _ y _ (Rd.gr hry (gW.trans (by assumption))) hw2).mono ?_; rintro e w' ⟨ds2, f2, rfl, s2, fr2, x3, rfl⟩)
          | (go_at_call 34; refine (specSame_any _ _ _ _ x y _ (Rd.gr s1 (by repeat (first | exact Gr.refl _ | apply Gr.ext | apply Gr.alloc | apply Gr.drew))) s2).mono ?_; rintro e w' ⟨rfl, x4, rfl⟩))
      have hG2 : Gr W (((W.drew.ext x2).ext x3).ext x4) := by assumption
      generalize (((W.drew.ext x2).ext x3).ext x4) = W2 at hG2 ⊢
      have gW2 : Gr w W2 := gW.trans hG2
      have k0 := l0 W2 hG2
      have k1 := l1 W2 hG2
      have k2 := l2 W2 hG2
      have k3 := l3 W2 hG2
      have k4 := l4 W2 hG2
      have k5 := l5 W2 hG2
      have k6 := ll6 W2 hG2
      have k7 := ll7 W2 hG2
      have k8 := ll8 W2 hG2
      have n0 := m0 W2 hG2
      have n1 := m1 W2 hG2
      have n2 := m2 W2 hG2
      have n3 := m3 W2 hG2
      have n4 := m4 W2 hG2
      have n5 := m5 W2 hG2
      have n6 := mm6 W2 hG2
      have n7 := mm7 W2 hG2
      have n8 := mm8 W2 hG2
      have z1 := blk k0
      have z2 := blk n0
      clear l0 l1 l2 l3 l4 l5 ll6 ll7 ll8 m0 m1 m2 m3 m4 m5 mm6 mm7 mm8 hG2 gW s1 s2 fr1 fr2
      go_wp2_with fail
      refine (toEntry_any _ _ x _ (Rd.gr hrx (gW2.trans (by repeat (first | exact Gr.refl _ | apply Gr.ext | apply Gr.alloc | apply Gr.drew)))) hw).mono ?_
      rintro e w' ⟨ds3, f3, rfl, s3, fr3, x5, rfl⟩
      obtain ⟨e0, e1, e2, e3, e4, e5, ea6, el6, e6, ea7, el7, e7, ea8, el8, e8, rfl⟩ := rdEntry_shape s3
      go_wp2_with fail
      refine (toEntry_any _ _ y _ (Rd.gr hry (gW2.trans (by repeat (first | exact Gr.refl _ | apply Gr.ext | apply Gr.alloc | apply Gr.drew)))) hw2).mono ?_
      rintro e w' ⟨ds4, f4, rfl, s4, fr4, x6, rfl⟩
      obtain ⟨u0, u1, u2, u3, u4, u5, ua6, ul6, u6, ua7, ul7, u7, ua8, ul8, u8, rfl⟩ := rdEntry_shape s4
      go_wp2_with fail
      refine (implSame_any _ _ _ _ x y _ (Rd.gr s3 (by repeat (first | exact Gr.refl _ | apply Gr.ext | apply Gr.alloc | apply Gr.drew))) (Rd.gr s4 (by repeat (first | exact Gr.refl _ | apply Gr.ext | apply Gr.alloc | apply Gr.drew)))).mono ?_
      rintro e w' ⟨rfl, x7, rfl⟩
      go_wp2_with fail
      generalize hW : (((((W2.ext x5).alloc (Obj.cells #[.int .i64 e0, .string e1, .int .i64 e2, .int .i64 e3, .int .i64 e4, .string e5, .slice ea6 el6 e6, .slice ea7 el7 e7, .slice ea8 el8 e8] 53)).ext x6).alloc (Obj.cells #[.int .i64 u0, .string u1, .int .i64 u2, .int .i64 u3, .int .i64 u4, .string u5, .slice ua6 ul6 u6, .slice ua7 ul7 u7, .slice ua8 ul8 u8] 53)).ext x7) = W3
      have g3 : Gr W2 W3 := by rw [← hW]; exact (by repeat (first | exact Gr.refl _ | apply Gr.ext | apply Gr.alloc | apply Gr.drew))
      have gE : Gr (W2.ext x5) W3 := by rw [← hW]; exact (by repeat (first | exact Gr.refl _ | apply Gr.ext | apply Gr.alloc | apply Gr.drew))
      have gBE : Gr ((W2.ext x5).alloc (Obj.cells #[.int .i64 e0, .string e1, .int .i64 e2, .int .i64 e3, .int .i64 e4, .string e5, .slice ea6 el6 e6, .slice ea7 el7 e7, .slice ea8 el8 e8] 53)) W3 := by rw [← hW]; exact (by repeat (first | exact Gr.refl _ | apply Gr.ext | apply Gr.alloc | apply Gr.drew))
      have gG : Gr (((W2.ext x5).alloc (Obj.cells #[.int .i64 e0, .string e1, .int .i64 e2, .int .i64 e3, .int .i64 e4, .string e5, .slice ea6 el6 e6, .slice ea7 el7 e7, .slice ea8 el8 e8] 53)).ext x6) W3 := by rw [← hW]; exact (by repeat (first | exact Gr.refl _ | apply Gr.ext | apply Gr.alloc | apply Gr.drew))
      have gBG : Gr ((((W2.ext x5).alloc (Obj.cells #[.int .i64 e0, .string e1, .int .i64 e2, .int .i64 e3, .int .i64 e4, .string e5, .slice ea6 el6 e6, .slice ea7 el7 e7, .slice ea8 el8 e8] 53)).ext x6).alloc (Obj.cells #[.int .i64 u0, .string u1, .int .i64 u2, .int .i64 u3, .int .i64 u4, .string u5, .slice ua6 ul6 u6, .slice ua7 ul7 u7, .slice ua8 ul8 u8] 53)) W3 := by rw [← hW]; exact (by repeat (first | exact Gr.refl _ | apply Gr.ext | apply Gr.alloc | apply Gr.drew))
      have gW3 : Gr w W3 := gW2.trans g3
      have r3 := Rd.gr s3 gE
      have r4 := Rd.gr s4 gG
      have kc0 : ∀ w' : World, Gr W3 w' → w'.cell? ⟨w.heap.size, 0, none⟩ = some (.int .i64 c0) := fun w' h => (g3.trans h).keep k0
      have kc1 : ∀ w' : World, Gr W3 w' → w'.cell? ⟨w.heap.size, 1, none⟩ = some (.string c1) := fun w' h => (g3.trans h).keep k1
      have kc2 : ∀ w' : World, Gr W3 w' → w'.cell? ⟨w.heap.size, 2, none⟩ = some (.int .i64 c2) := fun w' h => (g3.trans h).keep k2
      have kc3 : ∀ w' : World, Gr W3 w' → w'.cell? ⟨w.heap.size, 3, none⟩ = some (.int .i64 c3) := fun w' h => (g3.trans h).keep k3
      have kc4 : ∀ w' : World, Gr W3 w' → w'.cell? ⟨w.heap.size, 4, none⟩ = some (.int .i64 c4) := fun w' h => (g3.trans h).keep k4
      have kc5 : ∀ w' : World, Gr W3 w' → w'.cell? ⟨w.heap.size, 5, none⟩ = some (.string c5) := fun w' h => (g3.trans h).keep k5
      have kc6 : ∀ w' : World, Gr W3 w' → w'.cell? ⟨w.heap.size, 6, none⟩ = some (.slice a6 l6 c6) := fun w' h => (g3.trans h).keep k6
      have kc7 : ∀ w' : World, Gr W3 w' → w'.cell? ⟨w.heap.size, 7, none⟩ = some (.slice a7 l7 c7) := fun w' h => (g3.trans h).keep k7
      have kc8 : ∀ w' : World, Gr W3 w' → w'.cell? ⟨w.heap.size, 8, none⟩ = some (.slice a8 l8 c8) := fun w' h => (g3.trans h).keep k8
      have kd0 : ∀ w' : World, Gr W3 w' → w'.cell? ⟨w.heap.size + 1, 0, none⟩ = some (.int .i64 d0) := fun w' h => (g3.trans h).keep n0
      have kd1 : ∀ w' : World, Gr W3 w' → w'.cell? ⟨w.heap.size + 1, 1, none⟩ = some (.string d1) := fun w' h => (g3.trans h).keep n1
      have kd2 : ∀ w' : World, Gr W3 w' → w'.cell? ⟨w.heap.size + 1, 2, none⟩ = some (.int .i64 d2) := fun w' h => (g3.trans h).keep n2
      have kd3 : ∀ w' : World, Gr W3 w' → w'.cell? ⟨w.heap.size + 1, 3, none⟩ = some (.int .i64 d3) := fun w' h => (g3.trans h).keep n3
      have kd4 : ∀ w' : World, Gr W3 w' → w'.cell? ⟨w.heap.size + 1, 4, none⟩ = some (.int .i64 d4) := fun w' h => (g3.trans h).keep n4
      have kd5 : ∀ w' : World, Gr W3 w' → w'.cell? ⟨w.heap.size + 1, 5, none⟩ = some (.string d5) := fun w' h => (g3.trans h).keep n5
      have kd6 : ∀ w' : World, Gr W3 w' → w'.cell? ⟨w.heap.size + 1, 6, none⟩ = some (.slice b6 m6 d6) := fun w' h => (g3.trans h).keep n6
      have kd7 : ∀ w' : World, Gr W3 w' → w'.cell? ⟨w.heap.size + 1, 7, none⟩ = some (.slice b7 m7 d7) := fun w' h => (g3.trans h).keep n7
      have kd8 : ∀ w' : World, Gr W3 w' → w'.cell? ⟨w.heap.size + 1, 8, none⟩ = some (.slice b8 m8 d8) := fun w' h => (g3.trans h).keep n8
      have ke0 : ∀ w' : World, Gr W3 w' → w'.cell? ⟨W2.heap.size + x5.objs.size, 0, none⟩ = some (.int .i64 e0) := fun w' h => (gBE.trans h).keep (box_cell (by simp) rfl)
      have ke1 : ∀ w' : World, Gr W3 w' → w'.cell? ⟨W2.heap.size + x5.objs.size, 1, none⟩ = some (.string e1) := fun w' h => (gBE.trans h).keep (box_cell (by simp) rfl)
      have ke2 : ∀ w' : World, Gr W3 w' → w'.cell? ⟨W2.heap.size + x5.objs.size, 2, none⟩ = some (.int .i64 e2) := fun w' h => (gBE.trans h).keep (box_cell (by simp) rfl)
      have ke3 : ∀ w' : World, Gr W3 w' → w'.cell? ⟨W2.heap.size + x5.objs.size, 3, none⟩ = some (.int .i64 e3) := fun w' h => (gBE.trans h).keep (box_cell (by simp) rfl)
      have ke4 : ∀ w' : World, Gr W3 w' → w'.cell? ⟨W2.heap.size + x5.objs.size, 4, none⟩ = some (.int .i64 e4) := fun w' h => (gBE.trans h).keep (box_cell (by simp) rfl)
      have ke5 : ∀ w' : World, Gr W3 w' → w'.cell? ⟨W2.heap.size + x5.objs.size, 5, none⟩ = some (.string e5) := fun w' h => (gBE.trans h).keep (box_cell (by simp) rfl)
      have ke6 : ∀ w' : World, Gr W3 w' → w'.cell? ⟨W2.heap.size + x5.objs.size, 6, none⟩ = some (.slice ea6 el6 e6) := fun w' h => (gBE.trans h).keep (box_cell (by simp) rfl)
      have ke7 : ∀ w' : World, Gr W3 w' → w'.cell? ⟨W2.heap.size + x5.objs.size, 7, none⟩ = some (.slice ea7 el7 e7) := fun w' h => (gBE.trans h).keep (box_cell (by simp) rfl)
      have ke8 : ∀ w' : World, Gr W3 w' → w'.cell? ⟨W2.heap.size + x5.objs.size, 8, none⟩ = some (.slice ea8 el8 e8) := fun w' h => (gBE.trans h).keep (box_cell (by simp) rfl)
      have kg0 : ∀ w' : World, Gr W3 w' → w'.cell? ⟨W2.heap.size + x5.objs.size + 1 + x6.objs.size, 0, none⟩ = some (.int .i64 u0) := fun w' h => (gBG.trans h).keep (box_cell (by simp) rfl)
      have kg1 : ∀ w' : World, Gr W3 w' → w'.cell? ⟨W2.heap.size + x5.objs.size + 1 + x6.objs.size, 1, none⟩ = some (.string u1) := fun w' h => (gBG.trans h).keep (box_cell (by simp) rfl)
      have kg2 : ∀ w' : World, Gr W3 w' → w'.cell? ⟨W2.heap.size + x5.objs.size + 1 + x6.objs.size, 2, none⟩ = some (.int .i64 u2) := fun w' h => (gBG.trans h).keep (box_cell (by simp) rfl)
      have kg3 : ∀ w' : World, Gr W3 w' → w'.cell? ⟨W2.heap.size + x5.objs.size + 1 + x6.objs.size, 3, none⟩ = some (.int .i64 u3) := fun w' h => (gBG.trans h).keep (box_cell (by simp) rfl)
      have kg4 : ∀ w' : World, Gr W3 w' → w'.cell? ⟨W2.heap.size + x5.objs.size + 1 + x6.objs.size, 4, none⟩ = some (.int .i64 u4) := fun w' h => (gBG.trans h).keep (box_cell (by simp) rfl)
      have kg5 : ∀ w' : World, Gr W3 w' → w'.cell? ⟨W2.heap.size + x5.objs.size + 1 + x6.objs.size, 5, none⟩ = some (.string u5) := fun w' h => (gBG.trans h).keep (box_cell (by simp) rfl)
      have kg6 : ∀ w' : World, Gr W3 w' → w'.cell? ⟨W2.heap.size + x5.objs.size + 1 + x6.objs.size, 6, none⟩ = some (.slice ua6 ul6 u6) := fun w' h => (gBG.trans h).keep (box_cell (by simp) rfl)
      have kg7 : ∀ w' : World, Gr W3 w' → w'.cell? ⟨W2.heap.size + x5.objs.size + 1 + x6.objs.size, 7, none⟩ = some (.slice ua7 ul7 u7) := fun w' h => (gBG.trans h).keep (box_cell (by simp) rfl)
      have kg8 : ∀ w' : World, Gr W3 w' → w'.cell? ⟨W2.heap.size + x5.objs.size + 1 + x6.objs.size, 8, none⟩ = some (.slice ua8 ul8 u8) := fun w' h => (gBG.trans h).keep (box_cell (by simp) rfl)
      clear hW
      go_region_held3 (fun w' => Gr W3 w') (first | assumption | exact Gr.drew (Gr.refl _) | exact Gr.ext (by assumption) _)
        (first
          | (go_at_call_of 35 c0; refine (toEntry_any _ _ x _ (Rd.gr hrx (gW3.trans (by assumption))) hw).mono ?_; rintro e w' ⟨ds5, f5, rfl, s5, fr5, x8, rfl⟩)
          | (go_at_call 37; refine (eqEntry_any _ _ _ _ x x _ (Rd.gr r3 (by assumption)) s5).mono ?_; rintro e w' ⟨rfl, x9, rfl⟩; rw [decide_eq_true rfl]))
      have hG4 : Gr W3 ((W3.drew.ext x8).ext x9) := by assumption
      generalize hB : (W3.drew.ext x8).ext x9 = W4 at hG4 ⊢
      have gW4 : Gr w W4 := gW3.trans hG4
      have r5 := Rd.gr r4 hG4
      have kdkd0 : ∀ w' : World, Gr W4 w' → w'.cell? ⟨w.heap.size + 1, 0, none⟩ = some (.int .i64 d0) := fun w' h => kd0 w' (hG4.trans h)
      have kdkd1 : ∀ w' : World, Gr W4 w' → w'.cell? ⟨w.heap.size + 1, 1, none⟩ = some (.string d1) := fun w' h => kd1 w' (hG4.trans h)
      have kdkd2 : ∀ w' : World, Gr W4 w' → w'.cell? ⟨w.heap.size + 1, 2, none⟩ = some (.int .i64 d2) := fun w' h => kd2 w' (hG4.trans h)
      have kdkd3 : ∀ w' : World, Gr W4 w' → w'.cell? ⟨w.heap.size + 1, 3, none⟩ = some (.int .i64 d3) := fun w' h => kd3 w' (hG4.trans h)
      have kdkd4 : ∀ w' : World, Gr W4 w' → w'.cell? ⟨w.heap.size + 1, 4, none⟩ = some (.int .i64 d4) := fun w' h => kd4 w' (hG4.trans h)
      have kdkd5 : ∀ w' : World, Gr W4 w' → w'.cell? ⟨w.heap.size + 1, 5, none⟩ = some (.string d5) := fun w' h => kd5 w' (hG4.trans h)
      have kdkd6 : ∀ w' : World, Gr W4 w' → w'.cell? ⟨w.heap.size + 1, 6, none⟩ = some (.slice b6 m6 d6) := fun w' h => kd6 w' (hG4.trans h)
      have kdkd7 : ∀ w' : World, Gr W4 w' → w'.cell? ⟨w.heap.size + 1, 7, none⟩ = some (.slice b7 m7 d7) := fun w' h => kd7 w' (hG4.trans h)
      have kdkd8 : ∀ w' : World, Gr W4 w' → w'.cell? ⟨w.heap.size + 1, 8, none⟩ = some (.slice b8 m8 d8) := fun w' h => kd8 w' (hG4.trans h)
      have kgkg0 : ∀ w' : World, Gr W4 w' → w'.cell? ⟨W2.heap.size + x5.objs.size + 1 + x6.objs.size, 0, none⟩ = some (.int .i64 u0) := fun w' h => kg0 w' (hG4.trans h)
      have kgkg1 : ∀ w' : World, Gr W4 w' → w'.cell? ⟨W2.heap.size + x5.objs.size + 1 + x6.objs.size, 1, none⟩ = some (.string u1) := fun w' h => kg1 w' (hG4.trans h)
      have kgkg2 : ∀ w' : World, Gr W4 w' → w'.cell? ⟨W2.heap.size + x5.objs.size + 1 + x6.objs.size, 2, none⟩ = some (.int .i64 u2) := fun w' h => kg2 w' (hG4.trans h)
      have kgkg3 : ∀ w' : World, Gr W4 w' → w'.cell? ⟨W2.heap.size + x5.objs.size + 1 + x6.objs.size, 3, none⟩ = some (.int .i64 u3) := fun w' h => kg3 w' (hG4.trans h)
      have kgkg4 : ∀ w' : World, Gr W4 w' → w'.cell? ⟨W2.heap.size + x5.objs.size + 1 + x6.objs.size, 4, none⟩ = some (.int .i64 u4) := fun w' h => kg4 w' (hG4.trans h)
      have kgkg5 : ∀ w' : World, Gr W4 w' → w'.cell? ⟨W2.heap.size + x5.objs.size + 1 + x6.objs.size, 5, none⟩ = some (.string u5) := fun w' h => kg5 w' (hG4.trans h)
      have kgkg6 : ∀ w' : World, Gr W4 w' → w'.cell? ⟨W2.heap.size + x5.objs.size + 1 + x6.objs.size, 6, none⟩ = some (.slice ua6 ul6 u6) := fun w' h => kg6 w' (hG4.trans h)
      have kgkg7 : ∀ w' : World, Gr W4 w' → w'.cell? ⟨W2.heap.size + x5.objs.size + 1 + x6.objs.size, 7, none⟩ = some (.slice ua7 ul7 u7) := fun w' h => kg7 w' (hG4.trans h)
      have kgkg8 : ∀ w' : World, Gr W4 w' → w'.cell? ⟨W2.heap.size + x5.objs.size + 1 + x6.objs.size, 8, none⟩ = some (.slice ua8 ul8 u8) := fun w' h => kg8 w' (hG4.trans h)
      clear kc0 kc1 kc2 kc3 kc4 kc5 kc6 kc7 kc8 kd0 kd1 kd2 kd3 kd4 kd5 kd6 kd7 kd8 ke0 ke1 ke2 ke3 ke4 ke5 ke6 ke7 ke8 kg0 kg1 kg2 kg3 kg4 kg5 kg6 kg7 kg8 hB
      go_wp2_with fail
      go_region_held3 (fun w' => Gr W4 w') (first | assumption | exact Gr.drew (Gr.refl _) | exact Gr.ext (by assumption) _)
        (first
          | (go_at_call_of 35 d0; refine (toEntry_any _ _ y _ (Rd.gr hry (gW4.trans (by assumption))) hw2).mono ?_; rintro e w' ⟨ds6, f6, rfl, s6, fr6, x10, rfl⟩)
          | (go_at_call 37; refine (eqEntry_any _ _ _ _ y y _ (Rd.gr r5 (by assumption)) s6).mono ?_; rintro e w' ⟨rfl, x11, rfl⟩; rw [decide_eq_true rfl]))
      have hG5 : Gr W4 ((W4.drew.ext x10).ext x11) := by assumption
      go_wp2_with fail
      go_ret
      exact ⟨rfl, gW4.trans hG5⟩
end Go.Proofs.Ytdebnmambbmebaa
