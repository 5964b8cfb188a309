/- impl.sameNode. No condition. -/
import Derived.Test.YtmdiabjaggadjaaGreatEqFunc
namespace Go.Proofs.YtmdiabjaggadjaaGreat
open Go.RowKit
variable {d : Nat}

def sameNd (x y : GExpr d) : Bool := decide (x.1 = y.1 ∧ x.2.1 = y.2.1 ∧ x.2.2.1 = y.2.2.1 ∧ x.2.2.2.1 = y.2.2.2.1 ∧ x.2.2.2.2.1 = y.2.2.2.2.1 ∧ x.2.2.2.2.2.1 = y.2.2.2.2.2.1)

theorem exprEq (x y : GExpr d) : x = y ↔ sameNd x y = true ∧ x.2.2.2.2.2.2 = y.2.2.2.2.2.2 := by
  obtain ⟨q0, q1, q2, q3, q4, q5, q6⟩ := x
  obtain ⟨p0, p1, p2, p3, p4, p5, p6⟩ := y
  unfold sameNd
  simp only [Prod.mk.injEq, decide_eq_true_eq, and_assoc]

set_option maxRecDepth 10000 in
set_option maxHeartbeats 4000000 in
theorem sameNode_any (fp fq : List Nat) (cs ds : Array Value) (x y : GExpr d) (w : World) (hx : Rd.rd fp w cs.toList x) (hy : Rd.rd fq w ds.toList y) :
    Calls Tryz.prog 96 #[.agg cs, .agg ds] w fun e w' => e = .returned (.bool (sameNd x y)) ∧ Gr w w' := by
  obtain ⟨q0, q1, q2, q3, q4, q5, q6⟩ := x
  obtain ⟨p0, p1, p2, p3, p4, p5, p6⟩ := y
  obtain ⟨vq6, fq6, rfl, -, -, -, -, -, -, -, hq6⟩ := rdExpr_inv q0 q1 q2 q3 q4 q5 q6 hx
  obtain ⟨vp6, fp6, rfl, -, -, -, -, -, -, -, hp6⟩ := rdExpr_inv p0 p1 p2 p3 p4 p5 p6 hy
  obtain ⟨aq6, cq6, rfl, -, -, -⟩ := hq6.open
  obtain ⟨ap6, cp6, rfl, -, -, -⟩ := hp6.open
  clear hx hy hq6 hp6
  go_enter Tryz.func96, Tryz.ntmps96
  go_wp2_with fail
  · go_ret
    have t0 : q0 = p0 := by assumption
    have t1 : q1 = p1 := by assumption
    have t2 : q2 = p2 := by assumption
    have t3 : q3 = p3 := by assumption
    have t4 : q4.toList = p4.toList := by assumption
    refine ⟨ret_bool ?_, (by repeat (first | exact Gr.refl _ | apply Gr.ext | apply Gr.alloc | apply Gr.drew))⟩
    unfold sameNd
    by_cases e5 : q5 = p5
    · rw [e5]
      symm
      rw [beq_self_eq_true, decide_eq_true_eq]
      exact ⟨t0, t1, t2, t3, str_inj t4, rfl⟩
    · rw [beq_eq_false_iff_ne.2 fun e => e5 (str_inj e)]
      symm
      rw [decide_eq_false_iff_not]
      rintro ⟨-, -, -, -, -, e⟩
      exact e5 e
  all_goals
  · go_ret
    refine ⟨ret_bool ?_, (by repeat (first | exact Gr.refl _ | apply Gr.ext | apply Gr.alloc | apply Gr.drew))⟩
    unfold sameNd
    symm
    rw [decide_eq_false_iff_not]
    rintro ⟨e0, e1, e2, e3, e4, -⟩
    first
    | exact absurd (congrArg ByteArray.toList e4) (by assumption)
    | exact absurd e3 (by assumption)
    | exact absurd e2 (by assumption)
    | exact absurd e1 (by assumption)
    | exact absurd e0 (by assumption)

end Go.Proofs.YtmdiabjaggadjaaGreat
