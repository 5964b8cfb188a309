/- impl.EqualExpr. No condition. -/
import Derived.Test.YtmdiabjaggadjaaGreatEqExA
namespace Go.Proofs.YtmdiabjaggadjaaGreat
open Go.RowKit
variable {d : Nat}

theorem enterEqExpr (args : Array Value) (W : World) : (callFunc 69 args).run Tryz.prog W = .ok (.enter 69 args) W := by
  kernel_rfl

set_option maxRecDepth 10000 in
set_option maxHeartbeats 4000000 in
theorem implEqExpr_of (hE : ∀ (fp fq : List Nat) (cs ds : Array Value) (x y : GE d) (w : World), Rd.rd fp w cs.toList x → Rd.rd fq w ds.toList y → Calls Tryz.prog 69 #[.agg cs, .agg ds] w fun e w' => e = .returned (.bool (decide (x = y))) ∧ Gr w w')
    (fp fq : List Nat) (cs ds : Array Value) (x y : GExpr d) (w : World) (hx : Rd.rd fp w cs.toList x) (hy : Rd.rd fq w ds.toList y) :
    Calls Tryz.prog 69 #[.agg cs, .agg ds] w fun e w' => e = .returned (.bool (decide (x = y))) ∧ Gr w w' := by
  have HH := Lib.hid hE
  clear hE
  have hrx := hx
  have hry := hy
  obtain ⟨xt, hxt⟩ : ∃ t, x = t := ⟨x, rfl⟩
  obtain ⟨yt, hyt⟩ : ∃ t, y = t := ⟨y, rfl⟩
  rw [hxt] at hx
  rw [hyt] at hy
  obtain ⟨q0, q1, q2, q3, q4, q5, q6⟩ := xt
  obtain ⟨p0, p1, p2, p3, p4, p5, p6⟩ := yt
  obtain ⟨vq6, fq6, rfl, -, -, -, -, -, -, -, hq6⟩ := rdExpr_inv q0 q1 q2 q3 q4 q5 q6 hx
  obtain ⟨vp6, fp6, rfl, -, -, -, -, -, -, -, hp6⟩ := rdExpr_inv p0 p1 p2 p3 p4 p5 p6 hy
  have sq6 := hq6
  have sp6 := hp6
  obtain ⟨aq6, cq6, rfl, -, -, -⟩ := hq6.open
  obtain ⟨ap6, cp6, rfl, -, -, -⟩ := hp6.open
  have HQ := Lib.hid (exprEq x y)
  have e2 : x.2.2.2.2.2.2 = q6 := by rw [hxt]
  have e3 : y.2.2.2.2.2.2 = p6 := by rw [hyt]
  rw [e2, e3] at HQ
  clear hx hy hq6 hp6 hxt hyt e2 e3
  go_enter Tryz.func69, Tryz.ntmps69
  go_wp2_with fail
  refine (sameNode_any _ _ _ _ x y _ (Rd.gr hrx (by repeat (first | exact Gr.refl _ | apply Gr.ext | apply Gr.alloc | apply Gr.drew))) (Rd.gr hry (by repeat (first | exact Gr.refl _ | apply Gr.ext | apply Gr.alloc | apply Gr.drew)))).mono ?_
  rintro e w3 ⟨rfl, x3, rfl⟩
  by_cases hs : sameNd x y = true
  · rw [hs]
    have HS := Lib.hid hs
    clear hs
    go_wp2_with fail
    refine (equalFuncExpr_any _ _ _ _ q6 p6 69 _ (sq6.gr (by repeat (first | exact Gr.refl _ | apply Gr.ext | apply Gr.alloc | apply Gr.drew))) (sp6.gr (by repeat (first | exact Gr.refl _ | apply Gr.ext | apply Gr.alloc | apply Gr.drew))) ⟨enterEqExpr, fun x _ y _ W fp fq cs ds _ h1 h2 => HH.out fp fq cs ds x y W h1 h2⟩).mono ?_
    rintro e w4 ⟨rfl, x4, rfl⟩
    go_wp2_with fail
    go_ret
    refine ⟨ret_bool ?_, (by repeat (first | exact Gr.refl _ | apply Gr.ext | apply Gr.alloc | apply Gr.drew))⟩
    rw [decide_eq_decide]
    exact ⟨fun h => HQ.out.2 ⟨HS.out, h⟩, fun h => (HQ.out.1 h).2⟩
  · rw [Bool.eq_false_iff.2 hs]
    have HS := Lib.hid hs
    clear hs
    go_wp2_with fail
    go_ret
    exact ⟨ret_bool (decide_eq_false fun h => HS.out (HQ.out.1 h).1).symm, (by repeat (first | exact Gr.refl _ | apply Gr.ext | apply Gr.alloc | apply Gr.drew))⟩

theorem implEqE_all : (d : Nat) → ∀ (fp fq : List Nat) (cs ds : Array Value) (x y : GE d) (w : World), Rd.rd fp w cs.toList x → Rd.rd fq w ds.toList y → Calls Tryz.prog 69 #[.agg cs, .agg ds] w fun e w' => e = .returned (.bool (decide (x = y))) ∧ Gr w w'
  | 0 => by intro fp fq cs ds x; exact PEmpty.elim x
  | d + 1 => implEqExpr_of (implEqE_all d)

theorem implEqExpr_any (fp fq : List Nat) (cs ds : Array Value) (x y : GExpr d) (w : World) (hx : Rd.rd fp w cs.toList x) (hy : Rd.rd fq w ds.toList y) :
    Calls Tryz.prog 69 #[.agg cs, .agg ds] w fun e w' => e = .returned (.bool (decide (x = y))) ∧ Gr w w' := implEqExpr_of (implEqE_all d) fp fq cs ds x y w hx hy

end Go.Proofs.YtmdiabjaggadjaaGreat
