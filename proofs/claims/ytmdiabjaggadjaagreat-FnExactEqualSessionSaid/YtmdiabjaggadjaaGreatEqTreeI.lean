/- impl.EqualTree. Made by mk_eqchain.py. No condition. -/
import Derived.Test.YtmdiabjaggadjaaGreatEqFuncN
namespace Go.Proofs.YtmdiabjaggadjaaGreat
open Go.RowKit
variable {d : Nat}

set_option maxRecDepth 10000 in
set_option maxHeartbeats 8000000 in
theorem eqTestNode_any (fp fq : List Nat) (cs ds : Array Value) (x y : GNode) (w : World) (hx : Rd.rd fp w cs.toList x) (hy : Rd.rd fq w ds.toList y) (b : Nat) (hc : w.cell? ⟨b, 0, none⟩ = some (.bool true)) :
    Calls Tryz.prog 73 (#[.agg cs, .agg ds] ++ #[.pointer (some ⟨b, 0, none⟩)]) w fun e w' => e = .returned (.bool (decide (x = y))) ∧ Gr w w' := by
  have hb := blk hc
  obtain ⟨q0, q1, q2, q3, q4, q5⟩ := x
  obtain ⟨p0, p1, p2, p3, p4, p5⟩ := y
  obtain ⟨vq5, fq5, rfl, -, hq0, hq1, hq2, hq3, hq4, hq5⟩ := rdNode_inv q0 q1 q2 q3 q4 q5 hx
  obtain ⟨vp5, fp5, rfl, -, hp0, hp1, hp2, hp3, hp4, hp5⟩ := rdNode_inv p0 p1 p2 p3 p4 p5 hy
  have HE : ((q0, q1, q2, q3, q4, q5) : GNode) = (p0, p1, p2, p3, p4, p5) ↔ q0 = p0 ∧ q1 = p1 ∧ q2 = p2 ∧ q3 = p3 ∧ q4 = p4 ∧ q5 = p5 := by
    simp only [Prod.mk.injEq]
  have HE := Lib.hid HE
  have sq5 := hq5
  obtain ⟨aq5, cq5, rfl, -, -, -⟩ := hq5.open
  have sp5 := hp5
  obtain ⟨ap5, cp5, rfl, -, -, -⟩ := hp5.open
  clear hx hy hq5 hp5
  go_enter Tryz.func73, Tryz.ntmps73
  go_wp2_with fail
  · skip
    have e0 : q0 = p0 := by assumption
    have E0 := Lib.hid e0
    clear e0
    have e1 : q1 = p1 := by assumption
    have E1 := Lib.hid e1
    clear e1
    have e2 : q2 = p2 := by assumption
    have E2 := Lib.hid e2
    clear e2
    have e3 : q3 = p3 := by assumption
    have E3 := Lib.hid e3
    clear e3
    have e4 : q4.toList = p4.toList := by assumption
    have E4 := Lib.hid (str_inj e4)
    clear e4
    refine (slicesEqualI_any _ _ _ _ q5 p5 _ (sq5.gr (by repeat (first | exact Gr.refl _ | apply Gr.ext | apply Gr.alloc | apply Gr.drew))) (sp5.gr (by repeat (first | exact Gr.refl _ | apply Gr.ext | apply Gr.alloc | apply Gr.drew)))).mono ?_
    rintro e w3 ⟨rfl, x3, rfl⟩
    go_wp2_with fail
    go_ret
    refine ⟨ret_bool ?_, (by repeat (first | exact Gr.refl _ | apply Gr.ext | apply Gr.alloc | apply Gr.drew))⟩
    rw [decide_eq_decide]
    exact ⟨fun h => HE.out.2 ⟨E0.out, E1.out, E2.out, E3.out, E4.out, h⟩, fun h => (HE.out.1 h).2.2.2.2.2⟩
  all_goals
  · skip
    go_ret
    refine ⟨ret_bool (decide_eq_false fun hxy => ?_).symm, (by repeat (first | exact Gr.refl _ | apply Gr.ext | apply Gr.alloc | apply Gr.drew))⟩
    obtain ⟨k0, k1, k2, k3, k4, k5⟩ := HE.out.1 hxy
    first
    | exact absurd (congrArg ByteArray.toList k0) (by assumption)
    | exact absurd k0 (by assumption)
    | exact absurd (congrArg ByteArray.toList k1) (by assumption)
    | exact absurd k1 (by assumption)
    | exact absurd (congrArg ByteArray.toList k2) (by assumption)
    | exact absurd k2 (by assumption)
    | exact absurd (congrArg ByteArray.toList k3) (by assumption)
    | exact absurd k3 (by assumption)
    | exact absurd (congrArg ByteArray.toList k4) (by assumption)
    | exact absurd k4 (by assumption)
    | exact absurd (congrArg ByteArray.toList k5) (by assumption)
    | exact absurd k5 (by assumption)


set_option maxHeartbeats 1000000 in
theorem sameNodes_any (fp fq : List Nat) (cs ds : Array Value) (x y : GTree) (w : World) (hx : Rd.rd fp w cs.toList x) (hy : Rd.rd fq w ds.toList y) :
    Calls Tryz.prog 43 #[.agg cs, .agg ds, .bool true] w fun e w' => e = .returned (.bool (decide (x = y))) ∧ Gr w w' := by
  obtain ⟨v0, f0, rfl, -, hu⟩ := rdTree_inv x hx
  obtain ⟨v1, f1, rfl, -, hv⟩ := rdTree_inv y hy
  have HU := Lib.hid hu
  have HV := Lib.hid hv
  obtain ⟨a0, c0, rfl, -, -, -⟩ := hu.open
  obtain ⟨a1, c1, rfl, -, -, -⟩ := hv.open
  clear hx hy hu hv
  have hT : ∀ w' : World, TestEqC (((w.alloc (.cells #[.slice a0 x.length c0] 43)).alloc (.cells #[.slice a1 y.length c1] 43)).alloc (.cells #[.bool true] 4)) 73 #[.pointer (some ⟨w.heap.size + 2, 0, none⟩)] x y := fun _ =>
    ⟨Tryz.call73, fun x _ y _ W fp fq cs ds hW h1 h2 => eqTestNode_any fp fq cs ds x y W h1 h2 (w.heap.size + 2) (Gr.keep hW (box_cell (by simp) rfl))⟩
  have HT := Lib.hid (hT w)
  clear hT
  go_enter Tryz.func43, Tryz.ntmps43
  go_wp2_with fail
  refine (equalFuncNodeC_any _ _ _ _ x y _ _ _ (HU.out.gr (by repeat (first | exact Gr.refl _ | apply Gr.ext | apply Gr.alloc | apply Gr.drew))) (HV.out.gr (by repeat (first | exact Gr.refl _ | apply Gr.ext | apply Gr.alloc | apply Gr.drew))) HT.out).mono ?_
  rintro e w3 ⟨rfl, x3, rfl⟩
  go_wp2_with fail
  go_ret
  exact ⟨rfl, (by repeat (first | exact Gr.refl _ | apply Gr.ext | apply Gr.alloc | apply Gr.drew))⟩

theorem implEqTree_any (fp fq : List Nat) (cs ds : Array Value) (x y : GTree) (w : World) (hx : Rd.rd fp w cs.toList x) (hy : Rd.rd fq w ds.toList y) :
    Calls Tryz.prog 19 #[.agg cs, .agg ds] w fun e w' => e = .returned (.bool (decide (x = y))) ∧ Gr w w' := by
  have HX := Lib.hid hx
  have HY := Lib.hid hy
  obtain ⟨v0, f0, rfl, -, hu⟩ := rdTree_inv x hx
  obtain ⟨v1, f1, rfl, -, hv⟩ := rdTree_inv y hy
  obtain ⟨a0, c0, rfl, -, -, -⟩ := hu.open
  obtain ⟨a1, c1, rfl, -, -, -⟩ := hv.open
  clear hx hy hu hv
  go_enter Tryz.func19, Tryz.ntmps19
  go_wp2_with fail
  refine (sameNodes_any _ _ _ _ x y _ (Rd.gr HX.out (by repeat (first | exact Gr.refl _ | apply Gr.ext | apply Gr.alloc | apply Gr.drew))) (Rd.gr HY.out (by repeat (first | exact Gr.refl _ | apply Gr.ext | apply Gr.alloc | apply Gr.drew)))).mono ?_
  rintro e w3 ⟨rfl, x3, rfl⟩
  go_wp2_with fail
  go_ret
  exact ⟨rfl, (by repeat (first | exact Gr.refl _ | apply Gr.ext | apply Gr.alloc | apply Gr.drew))⟩

end Go.Proofs.YtmdiabjaggadjaaGreat
