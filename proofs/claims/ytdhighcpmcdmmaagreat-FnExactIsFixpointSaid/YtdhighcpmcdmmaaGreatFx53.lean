/- Contracts and laws towards ReadsOf, part 54 of 54. No condition. -/
import Derived.Test.YtdhighcpmcdmmaaGreatFx52
set_option maxHeartbeats 32000000
set_option maxRecDepth 10000
set_option linter.unusedVariables false
set_option linter.unusedSimpArgs false
namespace Go.Proofs.YtdhighcpmcdmmaaGreat.fnExactIsFixpoint
open Go.ChangeShapes Go.WideShapes Go.ChangeAt Go.RowKit
theorem Ki{a b:Bool}(q:a=true)(s:b=true):(a&&b)=true:=by rw[q,s];rfl
theorem joined:joinedFacts Tryz.pinned.checked.prog 3 Tryz.f3 Rows.fnExactIsFixpointSpec Rows.fnExactIsFixpointRow=true:=by
 unfold joinedFacts
 repeat' with_reducible apply Ki
 all_goals first
  |with_reducible exact JA
  |with_reducible exact FQ
  |with_reducible exact J3
  |with_reducible exact Kc
  |with_reducible exact Ko
  |with_reducible exact JG
  |with_reducible exact JK
  |with_reducible exact IW
  |with_reducible exact IA
  |with_reducible exact IZ
  |kernel_rfl
theorem over:Rows.fnExactIsFixpointRow.holds Tryz.pinned (OpenSpec.ofChange Rows.fnExactIsFixpointSpec):=
 OpenClaim.holds_of_wide 3 Tryz.f3 rfl rfl rfl rfl rfl rfl rfl ⟨rfl,rfl,rfl,rfl,rfl⟩ rfl rfl rfl rfl rfl (by kernel_rfl) Tryz.func3 joined
  (of_decide_eq_true (by kernel_rfl)) (by unfold Func.isWrapper;first|(rw[if_pos (by decide+kernel)];kernel_rfl)|(rw[if_neg (by decide+kernel)];exact⟨rfl,rfl⟩))
  (fun os started H enc _=>lifted os started H enc)
theorem proved:Rows.FnExactIsFixpointSaid:=over
#print axioms proved
end Go.Proofs.YtdhighcpmcdmmaaGreat.fnExactIsFixpoint
