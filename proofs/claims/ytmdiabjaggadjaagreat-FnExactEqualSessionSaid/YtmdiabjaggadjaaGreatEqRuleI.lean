/- impl.EqualRule. Made by mk_eqchain.py. No condition. -/
import Derived.Test.YtmdiabjaggadjaaGreatEqRuleA
import Derived.Test.YtmdiabjaggadjaaGreatEqRuleB
import Derived.Test.YtmdiabjaggadjaaGreatEqFlat
import Derived.Test.YtmdiabjaggadjaaGreatEqFuncC
namespace Go.Proofs.YtmdiabjaggadjaaGreat
open Go.RowKit
variable {d : Nat}

theorem enterEqTest1 (args : Array Value) (W : World) : (callFunc 68 args).run Tryz.prog W = .ok (.enter 68 args) W := by
  kernel_rfl

theorem enterEqTest2 (args : Array Value) (W : World) : (callFunc 71 args).run Tryz.prog W = .ok (.enter 71 args) W := by
  kernel_rfl

set_option maxRecDepth 10000 in
set_option maxHeartbeats 8000000 in
theorem implEqRule_any (fp fq : List Nat) (cs ds : Array Value) (x y : (GRule d)) (w : World) (hx : Rd.rd fp w cs.toList x) (hy : Rd.rd fq w ds.toList y) :
    Calls Tryz.prog 42 #[.agg cs, .agg ds] w fun e w' => e = .returned (.bool (decide (x = y))) ∧ Gr w w' := by
  obtain ⟨q0, q1, q2, q3, q4, q5⟩ := x
  obtain ⟨p0, p1, p2, p3, p4, p5⟩ := y
  obtain ⟨vq2, fq2, vq4, fq4, vq5, fq5, rfl, -, hq0, hq1, hq2, hq4, hq5⟩ := rdRule_inv q0 q1 q2 q3 q4 q5 hx
  obtain ⟨vp2, fp2, vp4, fp4, vp5, fp5, rfl, -, hp0, hp1, hp2, hp4, hp5⟩ := rdRule_inv p0 p1 p2 p3 p4 p5 hy
  have HE : ((q0, q1, q2, q3, q4, q5) : (GRule d)) = (p0, p1, p2, p3, p4, p5) ↔ q0 = p0 ∧ q1 = p1 ∧ q2 = p2 ∧ q3 = p3 ∧ q4 = p4 ∧ q5 = p5 := by
    simp only [Prod.mk.injEq]
  have HE := Lib.hid HE
  have sq2 := hq2
  obtain ⟨aq2, cq2, rfl, -, -, -⟩ := hq2.open
  have sq4 := hq4
  obtain ⟨aq4, cq4, rfl, -, -, -⟩ := hq4.open
  have sq5 := hq5
  obtain ⟨aq5, cq5, rfl, -, -, -⟩ := hq5.open
  have sp2 := hp2
  obtain ⟨ap2, cp2, rfl, -, -, -⟩ := hp2.open
  have sp4 := hp4
  obtain ⟨ap4, cp4, rfl, -, -, -⟩ := hp4.open
  have sp5 := hp5
  obtain ⟨ap5, cp5, rfl, -, -, -⟩ := hp5.open
  clear hx hy hq2 hq4 hq5 hp2 hp4 hp5
  go_enter Tryz.func42, Tryz.ntmps42
  go_wp2_with fail
  · skip
    have e0 : q0.toList = p0.toList := by assumption
    have E0 := Lib.hid (str_inj e0)
    clear e0
    have e1 : q1.toList = p1.toList := by assumption
    have E1 := Lib.hid (str_inj e1)
    clear e1
    refine (slicesEqualString_any _ _ _ _ q2 p2 _ (sq2.gr (by repeat (first | exact Gr.refl _ | apply Gr.ext | apply Gr.alloc | apply Gr.drew))) (sp2.gr (by repeat (first | exact Gr.refl _ | apply Gr.ext | apply Gr.alloc | apply Gr.drew)))).mono ?_
    rintro e w3 ⟨rfl, x3, rfl⟩
    by_cases e2 : q2 = p2
    · rw [decide_eq_true e2]
      have E2 := Lib.hid e2
      clear e2
      go_wp2_with fail
      · skip
        have e3 : q3 = p3 := by first | assumption | simpa using (show (q3 == p3) = true by assumption)
        have E3 := Lib.hid e3
        clear e3
        refine (equalFuncEquation_any _ _ _ _ q4 p4 68 _ (sq4.gr (by repeat (first | exact Gr.refl _ | apply Gr.ext | apply Gr.alloc | apply Gr.drew))) (sp4.gr (by repeat (first | exact Gr.refl _ | apply Gr.ext | apply Gr.alloc | apply Gr.drew))) ⟨enterEqTest1, fun x _ y _ W fp fq cs ds _ h1 h2 => eqTestEquation_any fp fq cs ds x y W h1 h2⟩).mono ?_
        rintro e w4 ⟨rfl, x4, rfl⟩
        by_cases e4 : q4 = p4
        · rw [decide_eq_true e4]
          have E4 := Lib.hid e4
          clear e4
          go_wp2_with fail
          refine (equalFuncContribution_any _ _ _ _ q5 p5 71 _ (sq5.gr (by repeat (first | exact Gr.refl _ | apply Gr.ext | apply Gr.alloc | apply Gr.drew))) (sp5.gr (by repeat (first | exact Gr.refl _ | apply Gr.ext | apply Gr.alloc | apply Gr.drew))) ⟨enterEqTest2, fun x _ y _ W fp fq cs ds _ h1 h2 => eqTestContribution_any fp fq cs ds x y W h1 h2⟩).mono ?_
          rintro e w5 ⟨rfl, x5, rfl⟩
          go_wp2_with fail
          go_ret
          refine ⟨ret_bool ?_, (by repeat (first | exact Gr.refl _ | apply Gr.ext | apply Gr.alloc | apply Gr.drew))⟩
          rw [decide_eq_decide]
          exact ⟨fun h => HE.out.2 ⟨E0.out, E1.out, E2.out, E3.out, E4.out, h⟩, fun h => (HE.out.1 h).2.2.2.2.2⟩
        · rw [decide_eq_false e4]
          have E4 := Lib.hid e4
          clear e4
          go_wp2_with fail
          go_ret
          refine ⟨ret_bool (decide_eq_false fun hxy => ?_).symm, (by repeat (first | exact Gr.refl _ | apply Gr.ext | apply Gr.alloc | apply Gr.drew))⟩
          obtain ⟨k0, k1, k2, k3, k4, k5⟩ := HE.out.1 hxy
          exact E4.out k4
      all_goals
      · skip
        go_ret
        refine ⟨ret_bool (decide_eq_false fun hxy => ?_).symm, (by repeat (first | exact Gr.refl _ | apply Gr.ext | apply Gr.alloc | apply Gr.drew))⟩
        obtain ⟨k0, k1, k2, k3, k4, k5⟩ := HE.out.1 hxy
        first
        | exact absurd (congrArg ByteArray.toList k0) (by assumption)
        | exact absurd k0 (by assumption)
        | exact absurd (congrArg ByteArray.toList k1) (by assumption)
        | exact absurd k1 (by assumption)
        | exact absurd (congrArg ByteArray.toList k2) (by assumption)
        | exact absurd k2 (by assumption)
        | exact absurd (congrArg ByteArray.toList k3) (by assumption)
        | exact absurd k3 (by assumption)
        | exact absurd (congrArg ByteArray.toList k4) (by assumption)
        | exact absurd k4 (by assumption)
        | exact absurd (congrArg ByteArray.toList k5) (by assumption)
        | exact absurd k5 (by assumption)
    · rw [decide_eq_false e2]
      have E2 := Lib.hid e2
      clear e2
      go_wp2_with fail
      go_ret
      refine ⟨ret_bool (decide_eq_false fun hxy => ?_).symm, (by repeat (first | exact Gr.refl _ | apply Gr.ext | apply Gr.alloc | apply Gr.drew))⟩
      obtain ⟨k0, k1, k2, k3, k4, k5⟩ := HE.out.1 hxy
      exact E2.out k2
  all_goals
  · skip
    go_ret
    refine ⟨ret_bool (decide_eq_false fun hxy => ?_).symm, (by repeat (first | exact Gr.refl _ | apply Gr.ext | apply Gr.alloc | apply Gr.drew))⟩
    obtain ⟨k0, k1, k2, k3, k4, k5⟩ := HE.out.1 hxy
    first
    | exact absurd (congrArg ByteArray.toList k0) (by assumption)
    | exact absurd k0 (by assumption)
    | exact absurd (congrArg ByteArray.toList k1) (by assumption)
    | exact absurd k1 (by assumption)
    | exact absurd (congrArg ByteArray.toList k2) (by assumption)
    | exact absurd k2 (by assumption)
    | exact absurd (congrArg ByteArray.toList k3) (by assumption)
    | exact absurd k3 (by assumption)
    | exact absurd (congrArg ByteArray.toList k4) (by assumption)
    | exact absurd k4 (by assumption)
    | exact absurd (congrArg ByteArray.toList k5) (by assumption)
    | exact absurd k5 (by assumption)

end Go.Proofs.YtmdiabjaggadjaaGreat
