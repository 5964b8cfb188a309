/- The walk of the statement on SharedSize. No condition. -/
import Derived.Test.YtkfaihfgjiahdaaSharedC
import Derived.Deep.RegionHeld3
namespace Go.Proofs.Ytkfaihfgjiahdaa
open Go.RowKit

set_option maxRecDepth 10000 in
set_option maxHeartbeats 4000000 in
theorem lawShared_any (fp : List Nat) (cs : Array Value) (x : GStore) (a : Int) (w : World) (hx : Rd.rd fp w cs.toList x) :
    Calls Try.prog 4 #[.agg cs, .int .i64 a] w fun e w' => e = .returned (.bool true) ∧ Gr w w' := by
  have hrx := hx
  obtain ⟨a0, l0, c0, rfl⟩ := rdStore_shape hx
  by_cases hn : less 1048576 (wtStore x) < 0
  · have HN := Lib.hid hn
    clear hn
    go_enter Try.func4, Try.ntmps4
    go_wp2_with fail
    refine (szStore_any _ _ x _ _ (Rd.gr hrx (by repeat (first | exact Gr.refl _ | apply Gr.ext | apply Gr.alloc | apply Gr.drew))) (by omega) (by omega)).mono ?_
    rintro e w' ⟨rfl, x0, rfl⟩
    have hn := HN.out
    go_wp2_with fail
    go_ret
    exact ⟨rfl, (by repeat (first | exact Gr.refl _ | apply Gr.ext | apply Gr.alloc | apply Gr.drew))⟩
  · have hw : wtStore x ≤ 1048576 := by unfold less at hn; split at hn <;> omega
    have hlen : x.length ≤ 1048576 := by
      unfold wtStore wtCellS wtL at hw
      omega
    have HN := Lib.hid hn
    clear hn
    go_enter Try.func4, Try.ntmps4
    go_wp2_with fail
    refine (szStore_any _ _ x _ _ (Rd.gr hrx (by repeat (first | exact Gr.refl _ | apply Gr.ext | apply Gr.alloc | apply Gr.drew))) (by omega) (by omega)).mono ?_
    rintro e w' ⟨rfl, x0, rfl⟩
    have hn := HN.out
    go_wp2_with fail
    clear hn
    refine (toStore_any _ _ x _ (Rd.gr hrx (by repeat (first | exact Gr.refl _ | apply Gr.ext | apply Gr.alloc | apply Gr.drew))) hw).mono ?_
    rintro e w' ⟨ds1, f1, rfl, s1, fr1, x1, rfl⟩
    go_wp2_with fail
    refine (specShared_any _ _ x a _ s1 hlen).mono ?_
    rintro e w' ⟨rfl, x2, rfl⟩
    go_wp2_with fail
    refine (toStore_any _ _ x _ (Rd.gr hrx (by repeat (first | exact Gr.refl _ | apply Gr.ext | apply Gr.alloc | apply Gr.drew))) hw).mono ?_
    rintro e w' ⟨ds2, f2, rfl, s2, fr2, x3, rfl⟩
    obtain ⟨b0, m0, d0, rfl⟩ := rdStore_shape s2
    go_wp2_with fail
    refine (implShared_any _ _ x a _ (Rd.gr s2 (by repeat (first | exact Gr.refl _ | apply Gr.ext | apply Gr.alloc | apply Gr.drew))) hlen).mono ?_
    rintro e w' ⟨rfl, x4, rfl⟩
    go_wp2_with fail
    generalize hW : ((((((w.alloc (Obj.cells #[Value.slice a0 l0 c0] 26)).ext x0).ext x1).ext x2).ext x3).alloc (Obj.cells #[Value.slice b0 m0 d0] 31)).ext x4 = W
    have gW : Gr w W := by rw [← hW]; exact (by repeat (first | exact Gr.refl _ | apply Gr.ext | apply Gr.alloc | apply Gr.drew))
    have gA : Gr (w.alloc (Obj.cells #[Value.slice a0 l0 c0] 26)) W := by rw [← hW]; exact (by repeat (first | exact Gr.refl _ | apply Gr.ext | apply Gr.alloc | apply Gr.drew))
    have gB : Gr ((((((w.alloc (Obj.cells #[Value.slice a0 l0 c0] 26)).ext x0).ext x1).ext x2).ext x3).alloc (Obj.cells #[Value.slice b0 m0 d0] 31)) W := by rw [← hW]; exact (by repeat (first | exact Gr.refl _ | apply Gr.ext | apply Gr.alloc | apply Gr.drew))
    have gS : Gr (((((w.alloc (Obj.cells #[Value.slice a0 l0 c0] 26)).ext x0).ext x1).ext x2).ext x3) W := by rw [← hW]; exact (by repeat (first | exact Gr.refl _ | apply Gr.ext | apply Gr.alloc | apply Gr.drew))
    have k0 : ∀ w' : World, Gr W w' → w'.cell? ⟨w.heap.size, 0, none⟩ = some (.slice a0 l0 c0) := fun w' hg => (gA.trans hg).keep (box_cell rfl rfl)
    have k1 : ∀ w' : World, Gr W w' → w'.cell? ⟨w.heap.size + 1 + x0.objs.size + x1.objs.size + x2.objs.size + x3.objs.size, 0, none⟩ = some (.slice b0 m0 d0) := fun w' hg => (gB.trans hg).keep (box_cell (by simp) rfl)
    have r2 := Rd.gr s2 gS
    clear hW
    go_region_held3 (fun w' => Gr W w') (first | assumption | exact Gr.drew (Gr.refl _) | exact Gr.ext (by assumption) _)
      (first
        | (go_at_call 13; refine (toStore_any _ _ x _ (Rd.gr hrx (gW.trans (by assumption))) hw).mono ?_; rintro e w' ⟨ds5, f5, rfl, s5, fr5, x8, rfl⟩)
        | (go_at_call 15; refine (eqStore_any _ _ _ _ x x _ (Rd.gr r2 (by assumption)) s5).mono ?_; rintro e w' ⟨rfl, x9, rfl⟩; rw [decide_eq_true rfl]))
    have hG5 : Gr W ((W.drew.ext x8).ext x9) := by assumption
    go_wp2_with fail
    go_ret
    exact ⟨rfl, gW.trans hG5⟩
end Go.Proofs.Ytkfaihfgjiahdaa
