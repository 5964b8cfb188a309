/- Contracts and laws behind those of ReadsOf, part 6. No condition. -/
import Derived.Test.YtleafadpfeibfaaGreatRx62
import Derived.ShutString
import Derived.ChangeOld
set_option maxHeartbeats 32000000
set_option maxRecDepth 10000
set_option linter.unusedVariables false
set_option linter.unusedSimpArgs false
namespace Go.Proofs.YtleafadpfeibfaaGreat.fnExactRunAll
open Go.ChangeShapes Go.WideShapes Go.ChangeAt Go.RowKit
open Go.ChangeMaps (open_string shut_string)
theorem own:ownKnob Tryz.prog.godebug=none:=by kernel_rfl
theorem laidOut:laidOutB Tryz.prog=true:=by kernel_rfl
set_option maxRecDepth 100000 in
theorem lifted(os:Os)(started:os.Started)(H:Type)(enc:TypeId×Value→H):
  ReturnsInHanded {} Tryz.checked os 5 .any (Rows.fnExactRunAllSpec.pre6 enc Tryz.prog Tryz.f5 Rows.fnExactRunAllRow.domain false) (Rows.fnExactRunAllSpec.post enc Tryz.prog Tryz.f5 false true false false):=by
 refine returnsInHanded_of_change_sized (C:=Tryz.checked) own started (by kernel_rfl) Tryz.func5
  (ChangeSpec.witness6 (enc:=enc) (C:=Tryz.checked) false ⟨#[],#[.agg #[.slice none 0 0,.slice none 0 0],.agg #[.slice none 0 0]],[]⟩ 8 (by kernel_rfl) (by kernel_rfl) (by kernel_rfl) (by kernel_rfl)) ?_
 intro W base args V gs before B X _ D _
 have I:(DataW.weightsEach Tryz.prog (Tryz.f5.params.toList++Rows.fnExactRunAllSpec.plain.varTypes Tryz.prog) (V++gs)).all (·≤reachBytes)=true:=D;clear D;have hval:∀(j:Nat) t v,Tryz.f5.params[j]?=some t→args[j]?=some v→Value.okWide Tryz.prog W .any base t v:=B;have Y:=X;obtain⟨p,q,T,hV,rfl,U,ay⟩:=X;have Z:DataW.TrodAll enc Tryz.prog W 0 (fun _=>true) true Tryz.f5.params.toList args.toList V p:=T;rw[Tryz.params5] at Z hval I;obtain⟨v0,aZ,d0,bg,p0,q0,ax,rfl,rfl,h0,r0⟩:=trodAll_cons Z;obtain⟨v1,bq,d1,bB,p1,q1,rfl,rfl,rfl,h1,r1⟩:=trodAll_cons r0;obtain⟨rfl,rfl,rfl⟩:=trodAll_nil r1;obtain rfl:args=#[v0,v1]:=by cases args;simp_all
 obtain⟨rfl,rfl⟩:=trodVars_none hV;have k0:=h0;have ae:∀x∈p0,x.block<W.heap.size:=by obtain⟨m,hm⟩:=k0;exact DataW.trod_lt m _ _ _ hm
 have ah:∀n∈d0.weights Tryz.prog 25,n≤reachBytes:=fun n hn=>by simpa using List.all_eq_true.1 I _ (DataW.weights_mem_each (j:=0) (t:=25) (d:=d0) rfl rfl n hn)
 obtain⟨bH,rfl,_⟩:=okWide_struct Tryz.underlying25 (hval 0 25 v0 rfl rfl);obtain⟨K,ai⟩:=h0;obtain⟨bL,x0,s0⟩:=(Bl).2 enc W K _ d0 p0 ai ah (fun b o hm=>U b o (by simp[hm]));have k1:=h1;have aj:∀x∈p1,x.block<W.heap.size:=by obtain⟨m,hm⟩:=k1;exact DataW.trod_lt m _ _ _ hm
 have ak:∀n∈d1.weights Tryz.prog 28,n≤reachBytes:=fun n hn=>by simpa using List.all_eq_true.1 I _ (DataW.weights_mem_each (j:=1) (t:=28) (d:=d1) rfl rfl n hn)
 obtain⟨bR,rfl,_⟩:=okWide_struct Tryz.underlying28 (hval 1 28 v1 rfl rfl);obtain⟨O,au⟩:=h1;obtain⟨bX,x1,s1⟩:=(FE).2 enc W O _ d1 p1 au ak (fun b o hm=>U b o (by simp[hm]));clear T B;refine(Calls.mono (R:=fun e w'=>e=.returned (.bool true)∧Gr W w') ?_ fun e W' ⟨he,hg⟩=>?_)
 ·exact lawAll_any _ _ _ _ _ _ W s0 s1
 ·subst he
  have J:=hg.below;exact⟨_,rfl,_,_,_,[],_,[],Y,trodAll_mk1 (shut_bool Tryz.underlying4 _),(trodAll_cons_mk (Below.trod laidOut (by kernel_rfl) (of_decide_eq_true (by kernel_rfl)) k0 J ae) (trodAll_cons_mk (Below.trod laidOut (by kernel_rfl) (of_decide_eq_true (by kernel_rfl)) k1 J aj) trodAll_mk0)),rfl,J.frame _,fun h=>by cases h⟩
end Go.Proofs.YtleafadpfeibfaaGreat.fnExactRunAll
