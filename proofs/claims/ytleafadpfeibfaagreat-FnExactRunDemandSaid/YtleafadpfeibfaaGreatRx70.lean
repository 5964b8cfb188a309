/- Contracts and laws behind those of ReadsOf, part 6. No condition. -/
import Derived.Test.YtleafadpfeibfaaGreatRx69
import Derived.ShutString
import Derived.ChangeOld
set_option maxHeartbeats 32000000
set_option maxRecDepth 10000
set_option linter.unusedVariables false
set_option linter.unusedSimpArgs false
namespace Go.Proofs.YtleafadpfeibfaaGreat.fnExactRunDemand
open Go.ChangeShapes Go.WideShapes Go.ChangeAt Go.RowKit
open Go.ChangeMaps (open_string shut_string)
theorem own:ownKnob Tryz.prog.godebug=none:=by kernel_rfl
theorem laidOut:laidOutB Tryz.prog=true:=by kernel_rfl
set_option maxRecDepth 100000 in
theorem lifted(os:Os)(started:os.Started)(H:Type)(enc:TypeId×Value→H):
  ReturnsInHanded {} Tryz.checked os 6 .any (Rows.fnExactRunDemandSpec.pre6 enc Tryz.prog Tryz.f6 Rows.fnExactRunDemandRow.domain false) (Rows.fnExactRunDemandSpec.post enc Tryz.prog Tryz.f6 false true false false):=by
 refine returnsInHanded_of_change_sized (C:=Tryz.checked) own started (by kernel_rfl) Tryz.func6
  (ChangeSpec.witness6 (enc:=enc) (C:=Tryz.checked) false ⟨#[],#[.agg #[.slice none 0 0,.slice none 0 0],.agg #[.slice none 0 0],.slice none 0 0],[]⟩ 8 (by kernel_rfl) (by kernel_rfl) (by kernel_rfl) (by kernel_rfl)) ?_
 intro W base args Z gs before B hW _ J _
 have D:(DataW.weightsEach Tryz.prog (Tryz.f6.params.toList++Rows.fnExactRunDemandSpec.plain.varTypes Tryz.prog) (Z++gs)).all (·≤reachBytes)=true:=J;clear J;have hval:∀(j:Nat) t v,Tryz.f6.params[j]?=some t→args[j]?=some v→Value.okWide Tryz.prog W .any base t v:=B;have ae:=hW;obtain⟨p,q,V,hV,rfl,K,bH⟩:=hW;have hA:DataW.TrodAll enc Tryz.prog W 0 (fun _=>true) true Tryz.f6.params.toList args.toList Z p:=V;rw[Tryz.params6] at hA hval D;obtain⟨v0,bL,d0,bR,p0,q0,bB,rfl,rfl,h0,r0⟩:=trodAll_cons hA;obtain⟨v1,bX,d1,cB,p1,q1,rfl,rfl,rfl,h1,r1⟩:=trodAll_cons r0;obtain⟨v2,cK,d2,cO,p2,q2,rfl,rfl,rfl,h2,r2⟩:=trodAll_cons r1;obtain⟨rfl,rfl,rfl⟩:=trodAll_nil r2;obtain rfl:args=#[v0,v1,v2]:=by cases args;simp_all
 obtain⟨rfl,rfl⟩:=trodVars_none hV;have k0:=h0;have ah:∀x∈p0,x.block<W.heap.size:=by obtain⟨m,hm⟩:=k0;exact DataW.trod_lt m _ _ _ hm
 have ai:∀n∈d0.weights Tryz.prog 25,n≤reachBytes:=fun n hn=>by simpa using List.all_eq_true.1 D _ (DataW.weights_mem_each (j:=0) (t:=25) (d:=d0) rfl rfl n hn)
 obtain⟨dB,rfl,_⟩:=okWide_struct Tryz.underlying25 (hval 0 25 v0 rfl rfl);obtain⟨O,aj⟩:=h0;obtain⟨dS,x0,s0⟩:=(Bl).2 enc W O _ d0 p0 aj ai (fun b o hm=>K b o (by simp[hm]));have k1:=h1;have ak:∀x∈p1,x.block<W.heap.size:=by obtain⟨m,hm⟩:=k1;exact DataW.trod_lt m _ _ _ hm
 have au:∀n∈d1.weights Tryz.prog 28,n≤reachBytes:=fun n hn=>by simpa using List.all_eq_true.1 D _ (DataW.weights_mem_each (j:=1) (t:=28) (d:=d1) rfl rfl n hn)
 obtain⟨dV,rfl,_⟩:=okWide_struct Tryz.underlying28 (hval 1 28 v1 rfl rfl);obtain⟨T,ax⟩:=h1;obtain⟨fe,x1,s1⟩:=(FE).2 enc W T _ d1 p1 ax au (fun b o hm=>K b o (by simp[hm]));have k2:=h2;have ay:∀x∈p2,x.block<W.heap.size:=by obtain⟨m,hm⟩:=k2;exact DataW.trod_lt m _ _ _ hm
 have aZ:∀n∈d2.weights Tryz.prog 62,n≤reachBytes:=fun n hn=>by simpa using List.all_eq_true.1 D _ (DataW.weights_mem_each (j:=2) (t:=62) (d:=d2) rfl rfl n hn)
 obtain⟨a2,X,Y,rfl⟩:=okWide_slice Tryz.underlying62 (hval 2 62 v2 rfl rfl);obtain⟨U,bg⟩:=h2;obtain⟨fu,x2,u2,bq,s2⟩:=(kN Tryz.underlying62 (by kernel_rfl) yX (by kernel_rfl)).2 enc W U _ d2 p2 bg aZ (fun b o hm=>K b o (by simp[hm]));obtain rfl:Value.slice a2 X Y=u2:=by simpa[Value.cells] using bq
 clear V B;refine(Calls.mono (R:=fun e w'=>e=.returned (.bool true)∧Gr W w') ?_ fun e W' ⟨he,hg⟩=>?_)
 ·exact lawDmd_any _ _ _ _ _ _ _ _ _ W s0 s1 s2
 ·subst he
  have I:=hg.below;exact⟨_,rfl,_,_,_,[],_,[],ae,trodAll_mk1 (shut_bool Tryz.underlying4 _),(trodAll_cons_mk (Below.trod laidOut (by kernel_rfl) (of_decide_eq_true (by kernel_rfl)) k0 I ah) (trodAll_cons_mk (Below.trod laidOut (by kernel_rfl) (of_decide_eq_true (by kernel_rfl)) k1 I ak) (trodAll_cons_mk (Below.trod laidOut (by kernel_rfl) (of_decide_eq_true (by kernel_rfl)) k2 I ay) trodAll_mk0))),rfl,I.frame _,fun h=>by cases h⟩
end Go.Proofs.YtleafadpfeibfaaGreat.fnExactRunDemand
