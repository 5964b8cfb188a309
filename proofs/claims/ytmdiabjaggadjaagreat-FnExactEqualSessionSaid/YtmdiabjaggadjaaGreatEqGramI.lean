/- impl.EqualGrammar. Made by mk_eqchain.py. No condition. -/
import Derived.Test.YtmdiabjaggadjaaGreatEqRuleI
import Derived.Test.YtmdiabjaggadjaaGreatEqGramA
import Derived.Test.YtmdiabjaggadjaaGreatEqFuncR
namespace Go.Proofs.YtmdiabjaggadjaaGreat
open Go.RowKit
variable {d : Nat}

theorem enterEqTest3 (args : Array Value) (W : World) : (callFunc 39 args).run Tryz.prog W = .ok (.enter 39 args) W := by
  kernel_rfl

theorem enterEqRule (args : Array Value) (W : World) : (callFunc 42 args).run Tryz.prog W = .ok (.enter 42 args) W := by
  kernel_rfl

set_option maxRecDepth 10000 in
set_option maxHeartbeats 8000000 in
theorem implEqGrammar_any (fp fq : List Nat) (cs ds : Array Value) (x y : (GGrammar d)) (w : World) (hx : Rd.rd fp w cs.toList x) (hy : Rd.rd fq w ds.toList y) :
    Calls Tryz.prog 18 #[.agg cs, .agg ds] w fun e w' => e = .returned (.bool (decide (x = y))) ∧ Gr w w' := by
  obtain ⟨q0, q1⟩ := x
  obtain ⟨p0, p1⟩ := y
  obtain ⟨vq0, fq0, vq1, fq1, rfl, -, hq0, hq1⟩ := rdGrammar_inv q0 q1 hx
  obtain ⟨vp0, fp0, vp1, fp1, rfl, -, hp0, hp1⟩ := rdGrammar_inv p0 p1 hy
  have HE : ((q0, q1) : (GGrammar d)) = (p0, p1) ↔ q0 = p0 ∧ q1 = p1 := by
    simp only [Prod.mk.injEq]
  have HE := Lib.hid HE
  have sq0 := hq0
  obtain ⟨aq0, cq0, rfl, -, -, -⟩ := hq0.open
  have sq1 := hq1
  obtain ⟨aq1, cq1, rfl, -, -, -⟩ := hq1.open
  have sp0 := hp0
  obtain ⟨ap0, cp0, rfl, -, -, -⟩ := hp0.open
  have sp1 := hp1
  obtain ⟨ap1, cp1, rfl, -, -, -⟩ := hp1.open
  clear hx hy hq0 hq1 hp0 hp1
  go_enter Tryz.func18, Tryz.ntmps18
  go_wp2_with fail
  refine (equalFuncSymbol_any _ _ _ _ q0 p0 39 _ (sq0.gr (by repeat (first | exact Gr.refl _ | apply Gr.ext | apply Gr.alloc | apply Gr.drew))) (sp0.gr (by repeat (first | exact Gr.refl _ | apply Gr.ext | apply Gr.alloc | apply Gr.drew))) ⟨enterEqTest3, fun x _ y _ W fp fq cs ds _ h1 h2 => eqTestSymbol_any fp fq cs ds x y W h1 h2⟩).mono ?_
  rintro e w3 ⟨rfl, x3, rfl⟩
  by_cases e0 : q0 = p0
  · rw [decide_eq_true e0]
    have E0 := Lib.hid e0
    clear e0
    go_wp2_with fail
    refine (equalFuncRule_any _ _ _ _ q1 p1 42 _ (sq1.gr (by repeat (first | exact Gr.refl _ | apply Gr.ext | apply Gr.alloc | apply Gr.drew))) (sp1.gr (by repeat (first | exact Gr.refl _ | apply Gr.ext | apply Gr.alloc | apply Gr.drew))) ⟨enterEqRule, fun x _ y _ W fp fq cs ds _ h1 h2 => implEqRule_any fp fq cs ds x y W h1 h2⟩).mono ?_
    rintro e w4 ⟨rfl, x4, rfl⟩
    go_wp2_with fail
    go_ret
    refine ⟨ret_bool ?_, (by repeat (first | exact Gr.refl _ | apply Gr.ext | apply Gr.alloc | apply Gr.drew))⟩
    rw [decide_eq_decide]
    exact ⟨fun h => HE.out.2 ⟨E0.out, h⟩, fun h => (HE.out.1 h).2⟩
  · rw [decide_eq_false e0]
    have E0 := Lib.hid e0
    clear e0
    go_wp2_with fail
    go_ret
    refine ⟨ret_bool (decide_eq_false fun hxy => ?_).symm, (by repeat (first | exact Gr.refl _ | apply Gr.ext | apply Gr.alloc | apply Gr.drew))⟩
    obtain ⟨k0, k1⟩ := HE.out.1 hxy
    exact E0.out k0

end Go.Proofs.YtmdiabjaggadjaaGreat
