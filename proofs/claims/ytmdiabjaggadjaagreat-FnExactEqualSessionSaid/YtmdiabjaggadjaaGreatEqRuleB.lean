/- The test of contributions. Made by mk_eqchain.py. No condition. -/
import Derived.Test.YtmdiabjaggadjaaGreatEqExI
namespace Go.Proofs.YtmdiabjaggadjaaGreat
open Go.RowKit
variable {d : Nat}

set_option maxRecDepth 10000 in
set_option maxHeartbeats 8000000 in
theorem eqTestContribution_any (fp fq : List Nat) (cs ds : Array Value) (x y : (GContribution d)) (w : World) (hx : Rd.rd fp w cs.toList x) (hy : Rd.rd fq w ds.toList y) :
    Calls Tryz.prog 71 #[.agg cs, .agg ds] w fun e w' => e = .returned (.bool (decide (x = y))) ∧ Gr w w' := by
  obtain ⟨q0, q1, ⟨q20, q21, q22, q23, q24, q25, q26⟩, ⟨q30, q31, q32, q33, q34, q35, q36⟩⟩ := x
  obtain ⟨p0, p1, ⟨p20, p21, p22, p23, p24, p25, p26⟩, ⟨p30, p31, p32, p33, p34, p35, p36⟩⟩ := y
  obtain ⟨vq26, fq26, vq36, fq36, rfl, -, hq0, hq1, hq20, hq21, hq22, hq23, hq24, hq25, hq26, hq30, hq31, hq32, hq33, hq34, hq35, hq36⟩ := rdContribution_inv q0 q1 q20 q21 q22 q23 q24 q25 q26 q30 q31 q32 q33 q34 q35 q36 hx
  obtain ⟨vp26, fp26, vp36, fp36, rfl, -, hp0, hp1, hp20, hp21, hp22, hp23, hp24, hp25, hp26, hp30, hp31, hp32, hp33, hp34, hp35, hp36⟩ := rdContribution_inv p0 p1 p20 p21 p22 p23 p24 p25 p26 p30 p31 p32 p33 p34 p35 p36 hy
  have hry2 := (rdExpr_mk q20 q21 q22 q23 q24 q25 q26 hq20 hq21 hq22 hq23 hq24 hq25 hq26 : Rd.rd (α := (GExpr d)) _ w _ _)
  obtain ⟨y2, hny2⟩ : ∃ y : (GExpr d), y = (q20, q21, q22, q23, q24, q25, q26) := ⟨_, rfl⟩
  rw [← hny2] at hry2
  have hry3 := (rdExpr_mk q30 q31 q32 q33 q34 q35 q36 hq30 hq31 hq32 hq33 hq34 hq35 hq36 : Rd.rd (α := (GExpr d)) _ w _ _)
  obtain ⟨y3, hny3⟩ : ∃ y : (GExpr d), y = (q30, q31, q32, q33, q34, q35, q36) := ⟨_, rfl⟩
  rw [← hny3] at hry3
  have hrz2 := (rdExpr_mk p20 p21 p22 p23 p24 p25 p26 hp20 hp21 hp22 hp23 hp24 hp25 hp26 : Rd.rd (α := (GExpr d)) _ w _ _)
  obtain ⟨z2, hnz2⟩ : ∃ y : (GExpr d), y = (p20, p21, p22, p23, p24, p25, p26) := ⟨_, rfl⟩
  rw [← hnz2] at hrz2
  have hrz3 := (rdExpr_mk p30 p31 p32 p33 p34 p35 p36 hp30 hp31 hp32 hp33 hp34 hp35 hp36 : Rd.rd (α := (GExpr d)) _ w _ _)
  obtain ⟨z3, hnz3⟩ : ∃ y : (GExpr d), y = (p30, p31, p32, p33, p34, p35, p36) := ⟨_, rfl⟩
  rw [← hnz3] at hrz3
  have HE : ((q0, q1, (q20, q21, q22, q23, q24, q25, q26), (q30, q31, q32, q33, q34, q35, q36)) : (GContribution d)) = (p0, p1, (p20, p21, p22, p23, p24, p25, p26), (p30, p31, p32, p33, p34, p35, p36)) ↔ q0 = p0 ∧ q1 = p1 ∧ y2 = z2 ∧ y3 = z3 := by
    rw [hny2, hnz2, hny3, hnz3]
    simp only [Prod.mk.injEq, and_assoc]
  have HE := Lib.hid HE
  clear hny2 hnz2 hny3 hnz3
  have sq26 := hq26
  obtain ⟨aq26, cq26, rfl, -, -, -⟩ := hq26.open
  have sq36 := hq36
  obtain ⟨aq36, cq36, rfl, -, -, -⟩ := hq36.open
  have sp26 := hp26
  obtain ⟨ap26, cp26, rfl, -, -, -⟩ := hp26.open
  have sp36 := hp36
  obtain ⟨ap36, cp36, rfl, -, -, -⟩ := hp36.open
  clear hx hy hq26 hq36 hp26 hp36
  go_enter Tryz.func71, Tryz.ntmps71
  go_wp2_with fail
  · skip
    have e0 : q0.toList = p0.toList := by assumption
    have E0 := Lib.hid (str_inj e0)
    clear e0
    have e1 : q1.toList = p1.toList := by assumption
    have E1 := Lib.hid (str_inj e1)
    clear e1
    refine (implEqExpr_any _ _ _ _ y2 z2 _ (Rd.gr hry2 (by repeat (first | exact Gr.refl _ | apply Gr.ext | apply Gr.alloc | apply Gr.drew))) (Rd.gr hrz2 (by repeat (first | exact Gr.refl _ | apply Gr.ext | apply Gr.alloc | apply Gr.drew)))).mono ?_
    rintro e w3 ⟨rfl, x3, rfl⟩
    by_cases e2 : y2 = z2
    · rw [decide_eq_true e2]
      have E2 := Lib.hid e2
      clear e2
      go_wp2_with fail
      refine (implEqExpr_any _ _ _ _ y3 z3 _ (Rd.gr hry3 (by repeat (first | exact Gr.refl _ | apply Gr.ext | apply Gr.alloc | apply Gr.drew))) (Rd.gr hrz3 (by repeat (first | exact Gr.refl _ | apply Gr.ext | apply Gr.alloc | apply Gr.drew)))).mono ?_
      rintro e w4 ⟨rfl, x4, rfl⟩
      go_wp2_with fail
      go_ret
      refine ⟨ret_bool ?_, (by repeat (first | exact Gr.refl _ | apply Gr.ext | apply Gr.alloc | apply Gr.drew))⟩
      rw [decide_eq_decide]
      exact ⟨fun h => HE.out.2 ⟨E0.out, E1.out, E2.out, h⟩, fun h => (HE.out.1 h).2.2.2⟩
    · rw [decide_eq_false e2]
      have E2 := Lib.hid e2
      clear e2
      go_wp2_with fail
      go_ret
      refine ⟨ret_bool (decide_eq_false fun hxy => ?_).symm, (by repeat (first | exact Gr.refl _ | apply Gr.ext | apply Gr.alloc | apply Gr.drew))⟩
      obtain ⟨k0, k1, k2, k3⟩ := HE.out.1 hxy
      exact E2.out k2
  all_goals
  · skip
    go_ret
    refine ⟨ret_bool (decide_eq_false fun hxy => ?_).symm, (by repeat (first | exact Gr.refl _ | apply Gr.ext | apply Gr.alloc | apply Gr.drew))⟩
    obtain ⟨k0, k1, k2, k3⟩ := HE.out.1 hxy
    first
    | exact absurd (congrArg ByteArray.toList k0) (by assumption)
    | exact absurd k0 (by assumption)
    | exact absurd (congrArg ByteArray.toList k1) (by assumption)
    | exact absurd k1 (by assumption)
    | exact absurd (congrArg ByteArray.toList k2) (by assumption)
    | exact absurd k2 (by assumption)
    | exact absurd (congrArg ByteArray.toList k3) (by assumption)
    | exact absurd k3 (by assumption)

end Go.Proofs.YtmdiabjaggadjaaGreat
