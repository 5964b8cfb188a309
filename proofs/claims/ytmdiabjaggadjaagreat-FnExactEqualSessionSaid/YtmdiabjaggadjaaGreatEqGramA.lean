/- The test of symbols. Made by mk_eqchain.py. No condition. -/
import Derived.Test.YtmdiabjaggadjaaGreatEqFlat
namespace Go.Proofs.YtmdiabjaggadjaaGreat
open Go.RowKit
variable {d : Nat}

set_option maxRecDepth 10000 in
set_option maxHeartbeats 8000000 in
theorem eqTestSymbol_any (fp fq : List Nat) (cs ds : Array Value) (x y : GSymbol) (w : World) (hx : Rd.rd fp w cs.toList x) (hy : Rd.rd fq w ds.toList y) :
    Calls Tryz.prog 39 #[.agg cs, .agg ds] w fun e w' => e = .returned (.bool (decide (x = y))) ∧ Gr w w' := by
  obtain ⟨q0, q1⟩ := x
  obtain ⟨p0, p1⟩ := y
  obtain ⟨vq1, fq1, rfl, -, hq0, hq1⟩ := rdSymbol_inv q0 q1 hx
  obtain ⟨vp1, fp1, rfl, -, hp0, hp1⟩ := rdSymbol_inv p0 p1 hy
  have HE : ((q0, q1) : GSymbol) = (p0, p1) ↔ q0 = p0 ∧ q1 = p1 := by
    simp only [Prod.mk.injEq]
  have HE := Lib.hid HE
  have sq1 := hq1
  obtain ⟨aq1, cq1, rfl, -, -, -⟩ := hq1.open
  have sp1 := hp1
  obtain ⟨ap1, cp1, rfl, -, -, -⟩ := hp1.open
  clear hx hy hq1 hp1
  go_enter Tryz.func39, Tryz.ntmps39
  go_wp2_with fail
  · skip
    have e0 : q0.toList = p0.toList := by assumption
    have E0 := Lib.hid (str_inj e0)
    clear e0
    refine (slicesEqualAttribute_any _ _ _ _ q1 p1 _ (sq1.gr (by repeat (first | exact Gr.refl _ | apply Gr.ext | apply Gr.alloc | apply Gr.drew))) (sp1.gr (by repeat (first | exact Gr.refl _ | apply Gr.ext | apply Gr.alloc | apply Gr.drew)))).mono ?_
    rintro e w3 ⟨rfl, x3, rfl⟩
    go_wp2_with fail
    go_ret
    refine ⟨ret_bool ?_, (by repeat (first | exact Gr.refl _ | apply Gr.ext | apply Gr.alloc | apply Gr.drew))⟩
    rw [decide_eq_decide]
    exact ⟨fun h => HE.out.2 ⟨E0.out, h⟩, fun h => (HE.out.1 h).2⟩
  all_goals
  · skip
    go_ret
    refine ⟨ret_bool (decide_eq_false fun hxy => ?_).symm, (by repeat (first | exact Gr.refl _ | apply Gr.ext | apply Gr.alloc | apply Gr.drew))⟩
    obtain ⟨k0, k1⟩ := HE.out.1 hxy
    first
    | exact absurd (congrArg ByteArray.toList k0) (by assumption)
    | exact absurd k0 (by assumption)
    | exact absurd (congrArg ByteArray.toList k1) (by assumption)
    | exact absurd k1 (by assumption)

end Go.Proofs.YtmdiabjaggadjaaGreat
