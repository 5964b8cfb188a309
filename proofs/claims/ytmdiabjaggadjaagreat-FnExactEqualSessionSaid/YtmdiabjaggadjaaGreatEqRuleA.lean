/- The tests of equations. Made by mk_eqchain.py. No condition. -/
import Derived.Test.YtmdiabjaggadjaaGreatEqExI
namespace Go.Proofs.YtmdiabjaggadjaaGreat
open Go.RowKit
variable {d : Nat}

set_option maxRecDepth 10000 in
set_option maxHeartbeats 8000000 in
theorem eqTestEquation_any (fp fq : List Nat) (cs ds : Array Value) (x y : (GEquation d)) (w : World) (hx : Rd.rd fp w cs.toList x) (hy : Rd.rd fq w ds.toList y) :
    Calls Tryz.prog 68 #[.agg cs, .agg ds] w fun e w' => e = .returned (.bool (decide (x = y))) ∧ Gr w w' := by
  obtain ⟨⟨q00, q01⟩, ⟨q10, q11, q12, q13, q14, q15, q16⟩⟩ := x
  obtain ⟨⟨p00, p01⟩, ⟨p10, p11, p12, p13, p14, p15, p16⟩⟩ := y
  obtain ⟨vq16, fq16, rfl, -, hq00, hq01, hq10, hq11, hq12, hq13, hq14, hq15, hq16⟩ := rdEquation_inv q00 q01 q10 q11 q12 q13 q14 q15 q16 hx
  obtain ⟨vp16, fp16, rfl, -, hp00, hp01, hp10, hp11, hp12, hp13, hp14, hp15, hp16⟩ := rdEquation_inv p00 p01 p10 p11 p12 p13 p14 p15 p16 hy
  have hry1 := (rdExpr_mk q10 q11 q12 q13 q14 q15 q16 hq10 hq11 hq12 hq13 hq14 hq15 hq16 : Rd.rd (α := (GExpr d)) _ w _ _)
  obtain ⟨y1, hny1⟩ : ∃ y : (GExpr d), y = (q10, q11, q12, q13, q14, q15, q16) := ⟨_, rfl⟩
  rw [← hny1] at hry1
  have hrz1 := (rdExpr_mk p10 p11 p12 p13 p14 p15 p16 hp10 hp11 hp12 hp13 hp14 hp15 hp16 : Rd.rd (α := (GExpr d)) _ w _ _)
  obtain ⟨z1, hnz1⟩ : ∃ y : (GExpr d), y = (p10, p11, p12, p13, p14, p15, p16) := ⟨_, rfl⟩
  rw [← hnz1] at hrz1
  have HE : (((q00, q01), (q10, q11, q12, q13, q14, q15, q16)) : (GEquation d)) = ((p00, p01), (p10, p11, p12, p13, p14, p15, p16)) ↔ q00 = p00 ∧ q01 = p01 ∧ y1 = z1 := by
    rw [hny1, hnz1]
    simp only [Prod.mk.injEq, and_assoc]
  have HE := Lib.hid HE
  clear hny1 hnz1
  have sq16 := hq16
  obtain ⟨aq16, cq16, rfl, -, -, -⟩ := hq16.open
  have sp16 := hp16
  obtain ⟨ap16, cp16, rfl, -, -, -⟩ := hp16.open
  clear hx hy hq16 hp16
  go_enter Tryz.func68, Tryz.ntmps68
  go_wp2_with fail
  · skip
    have e0 : q00 = p00 := by assumption
    have E0 := Lib.hid e0
    clear e0
    have e1 : q01.toList = p01.toList := by assumption
    have E1 := Lib.hid (str_inj e1)
    clear e1
    refine (implEqExpr_any _ _ _ _ y1 z1 _ (Rd.gr hry1 (by repeat (first | exact Gr.refl _ | apply Gr.ext | apply Gr.alloc | apply Gr.drew))) (Rd.gr hrz1 (by repeat (first | exact Gr.refl _ | apply Gr.ext | apply Gr.alloc | apply Gr.drew)))).mono ?_
    rintro e w3 ⟨rfl, x3, rfl⟩
    go_wp2_with fail
    go_ret
    refine ⟨ret_bool ?_, (by repeat (first | exact Gr.refl _ | apply Gr.ext | apply Gr.alloc | apply Gr.drew))⟩
    rw [decide_eq_decide]
    exact ⟨fun h => HE.out.2 ⟨E0.out, E1.out, h⟩, fun h => (HE.out.1 h).2.2⟩
  all_goals
  · skip
    go_ret
    refine ⟨ret_bool (decide_eq_false fun hxy => ?_).symm, (by repeat (first | exact Gr.refl _ | apply Gr.ext | apply Gr.alloc | apply Gr.drew))⟩
    obtain ⟨k0, k1, k2⟩ := HE.out.1 hxy
    first
    | exact absurd (congrArg ByteArray.toList k0) (by assumption)
    | exact absurd k0 (by assumption)
    | exact absurd (congrArg ByteArray.toList k1) (by assumption)
    | exact absurd k1 (by assumption)
    | exact absurd (congrArg ByteArray.toList k2) (by assumption)
    | exact absurd k2 (by assumption)

end Go.Proofs.YtmdiabjaggadjaaGreat
