/- The walk of the statement on HasCircular. No condition. -/
import Derived.Test.YtonemgahhhhmlaaCirc
import Derived.Deep.RegionHeld3
namespace Go.Proofs.Ytonemgahhhhmlaa
open Go.RowKit
variable {d : Nat}

set_option maxRecDepth 10000 in
set_option maxHeartbeats 4000000 in
theorem lawCirc_any (fp : List Nat) (cs : Array Value) (x : GGrammar d) (w : World) (hx : Rd.rd fp w cs.toList x) :
    Calls Try.prog 3 #[.agg cs] w fun e w' => e = .returned (.bool true) ∧ Gr w w' := by
  have hrx := hx
  obtain ⟨a0, l0, c0, a1, l1, c1, rfl⟩ := rdGrammar_shape hx
  by_cases hn : less 1048576 (wtGrammar x) < 0
  · have HN := Lib.hid hn
    clear hn
    go_enter Try.func3, Try.ntmps3
    go_wp2_with fail
    refine (szGrammar_any _ _ x _ _ (Rd.gr hrx (by repeat (first | exact Gr.refl _ | apply Gr.ext | apply Gr.alloc | apply Gr.drew))) (by omega) (by omega)).mono ?_
    rintro e w' ⟨rfl, x0, rfl⟩
    have hn := HN.out
    go_wp2_with fail
    go_ret
    exact ⟨rfl, (by repeat (first | exact Gr.refl _ | apply Gr.ext | apply Gr.alloc | apply Gr.drew))⟩
  · have hw : wtGrammar x ≤ 1048576 := by unfold less at hn; split at hn <;> omega
    have HN := Lib.hid hn
    clear hn
    go_enter Try.func3, Try.ntmps3
    go_wp2_with fail
    refine (szGrammar_any _ _ x _ _ (Rd.gr hrx (by repeat (first | exact Gr.refl _ | apply Gr.ext | apply Gr.alloc | apply Gr.drew))) (by omega) (by omega)).mono ?_
    rintro e w' ⟨rfl, x0, rfl⟩
    have hn := HN.out
    go_wp2_with fail
    clear hn
    refine (toGrammar_any _ _ x _ (Rd.gr hrx (by repeat (first | exact Gr.refl _ | apply Gr.ext | apply Gr.alloc | apply Gr.drew))) hw).mono ?_
    rintro e w' ⟨ds1, f1, rfl, s1, fr1, x1, rfl⟩
    go_wp2_with fail
    refine (specCirc_any _ _ x _ s1).mono ?_
    rintro e w' ⟨rfl, x2, rfl⟩
    go_wp2_with fail
    refine (toGrammar_any _ _ x _ (Rd.gr hrx (by repeat (first | exact Gr.refl _ | apply Gr.ext | apply Gr.alloc | apply Gr.drew))) hw).mono ?_
    rintro e w' ⟨ds2, f2, rfl, s2, fr2, x3, rfl⟩
    obtain ⟨b0, m0, d0, b1, m1, d1, rfl⟩ := rdGrammar_shape s2
    go_wp2_with fail
    refine (implCirc_any _ _ x _ (Rd.gr s2 (by repeat (first | exact Gr.refl _ | apply Gr.ext | apply Gr.alloc | apply Gr.drew)))).mono ?_
    rintro e w' ⟨rfl, x4, rfl⟩
    go_wp2_with fail
    generalize hW : ((((((w.alloc (Obj.cells #[Value.slice a0 l0 c0, Value.slice a1 l1 c1] 25)).ext x0).ext x1).ext x2).ext x3).alloc (Obj.cells #[Value.slice b0 m0 d0, Value.slice b1 m1 d1] 31)).ext x4 = W
    have gW : Gr w W := by rw [← hW]; exact (by repeat (first | exact Gr.refl _ | apply Gr.ext | apply Gr.alloc | apply Gr.drew))
    have gA : Gr (w.alloc (Obj.cells #[Value.slice a0 l0 c0, Value.slice a1 l1 c1] 25)) W := by rw [← hW]; exact (by repeat (first | exact Gr.refl _ | apply Gr.ext | apply Gr.alloc | apply Gr.drew))
    have gB : Gr ((((((w.alloc (Obj.cells #[Value.slice a0 l0 c0, Value.slice a1 l1 c1] 25)).ext x0).ext x1).ext x2).ext x3).alloc (Obj.cells #[Value.slice b0 m0 d0, Value.slice b1 m1 d1] 31)) W := by rw [← hW]; exact (by repeat (first | exact Gr.refl _ | apply Gr.ext | apply Gr.alloc | apply Gr.drew))
    have gS : Gr (((((w.alloc (Obj.cells #[Value.slice a0 l0 c0, Value.slice a1 l1 c1] 25)).ext x0).ext x1).ext x2).ext x3) W := by rw [← hW]; exact (by repeat (first | exact Gr.refl _ | apply Gr.ext | apply Gr.alloc | apply Gr.drew))
    have k0 : ∀ w' : World, Gr W w' → w'.cell? ⟨w.heap.size, 0, none⟩ = some (.slice a0 l0 c0) := fun w' hg => (gA.trans hg).keep (box_cell rfl rfl)
    have k1 : ∀ w' : World, Gr W w' → w'.cell? ⟨w.heap.size + 1 + x0.objs.size + x1.objs.size + x2.objs.size + x3.objs.size, 0, none⟩ = some (.slice b0 m0 d0) := fun w' hg => (gB.trans hg).keep (box_cell (by simp) rfl)
    have k2 : ∀ w' : World, Gr W w' → w'.cell? ⟨w.heap.size, 1, none⟩ = some (.slice a1 l1 c1) := fun w' hg => (gA.trans hg).keep (box_cell rfl rfl)
    have k3 : ∀ w' : World, Gr W w' → w'.cell? ⟨w.heap.size + 1 + x0.objs.size + x1.objs.size + x2.objs.size + x3.objs.size, 1, none⟩ = some (.slice b1 m1 d1) := fun w' hg => (gB.trans hg).keep (box_cell (by simp) rfl)
    have r2 := Rd.gr s2 gS
    clear hW
    go_region_held3 (fun w' => Gr W w') (first | assumption | exact Gr.drew (Gr.refl _) | exact Gr.ext (by assumption) _)
      (first
        | (go_at_call 6; refine (toGrammar_any _ _ x _ (Rd.gr hrx (gW.trans (by assumption))) hw).mono ?_; rintro e w' ⟨ds5, f5, rfl, s5, fr5, x8, rfl⟩)
        | (go_at_call 8; refine (eqGrammar_any _ _ _ _ x x _ (Rd.gr r2 (by assumption)) s5).mono ?_; rintro e w' ⟨rfl, x9, rfl⟩; rw [decide_eq_true rfl]))
    have hG5 : Gr W ((W.drew.ext x8).ext x9) := by assumption
    go_wp2_with fail
    go_ret
    exact ⟨rfl, gW.trans hG5⟩
end Go.Proofs.Ytonemgahhhhmlaa
