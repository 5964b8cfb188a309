/- Contracts and laws towards ReadsOf, part 53 of 54. No condition. -/
import Derived.Test.YtdhighcpmcdmmaaGreatFx51
import Derived.ShutString
import Derived.ChangeOld
set_option maxHeartbeats 32000000
set_option maxRecDepth 10000
set_option linter.unusedVariables false
set_option linter.unusedSimpArgs false
namespace Go.Proofs.YtdhighcpmcdmmaaGreat.fnExactIsFixpoint
open Go.ChangeShapes Go.WideShapes Go.ChangeAt Go.RowKit
open Go.ChangeMaps (open_string shut_string)
theorem own:ownKnob Tryz.prog.godebug=none:=by kernel_rfl
theorem laidOut:laidOutB Tryz.prog=true:=by kernel_rfl
set_option maxRecDepth 100000 in
theorem lifted(os:Os)(started:os.Started)(H:Type)(enc:TypeId×Value→H):
  ReturnsInHanded {} Tryz.checked os 3 .any (Rows.fnExactIsFixpointSpec.pre6 enc Tryz.prog Tryz.f3 Rows.fnExactIsFixpointRow.domain false) (Rows.fnExactIsFixpointSpec.post enc Tryz.prog Tryz.f3 false true false false):=by
 refine returnsInHanded_of_change_sized (C:=Tryz.checked) own started (by kernel_rfl) Tryz.func3
  (ChangeSpec.witness6 (enc:=enc) (C:=Tryz.checked) false ⟨#[],#[.agg #[.slice none 0 0,.slice none 0 0],.agg #[.slice none 0 0],.slice none 0 0],[]⟩ 8 (by kernel_rfl) (by kernel_rfl) (by kernel_rfl) (by kernel_rfl)) ?_
 intro W base args Z gs before s hW _ E _
 have B:(DataW.weightsEach Tryz.prog (Tryz.f3.params.toList++Rows.fnExactIsFixpointSpec.plain.varTypes Tryz.prog) (Z++gs)).all (·≤reachBytes)=true:=E;clear E;have hval:∀(j:Nat) t v,Tryz.f3.params[j]?=some t→args[j]?=some v→Value.okWide Tryz.prog W .any base t v:=s;have ae:=hW;obtain⟨p,q,U,hV,rfl,I,bg⟩:=hW;have hA:DataW.TrodAll enc Tryz.prog W 0 (fun _=>true) true Tryz.f3.params.toList args.toList Z p:=U;rw[Tryz.params3] at hA hval B;obtain⟨v0,bq,d0,bB,p0,q0,aZ,rfl,rfl,h0,r0⟩:=trodAll_cons hA;obtain⟨v1,bD,d1,bH,p1,q1,rfl,rfl,rfl,h1,r1⟩:=trodAll_cons r0;obtain⟨v2,bK,d2,bL,p2,q2,rfl,rfl,rfl,h2,r2⟩:=trodAll_cons r1;obtain⟨rfl,rfl,rfl⟩:=trodAll_nil r2;obtain rfl:args=#[v0,v1,v2]:=by cases args;simp_all
 obtain⟨rfl,rfl⟩:=trodVars_none hV;have k0:=h0;have ah:∀x∈p0,x.block<W.heap.size:=by obtain⟨m,hm⟩:=k0;exact DataW.trod_lt m _ _ _ hm
 have ai:∀n∈d0.weights Tryz.prog 25,n≤reachBytes:=fun n J=>by simpa using List.all_eq_true.1 B _ (DataW.weights_mem_each (j:=0) (t:=25) (d:=d0) rfl rfl n J)
 obtain⟨bN,rfl,_⟩:=okWide_struct Tryz.underlying25 (hval 0 25 v0 rfl rfl);obtain⟨K,aj⟩:=h0;obtain⟨bV,x0,s0⟩:=(Bl).2 enc W K _ d0 p0 aj ai (fun b o hm=>I b o (by simp[hm]));have k1:=h1;have au:∀x∈p1,x.block<W.heap.size:=by obtain⟨m,hm⟩:=k1;exact DataW.trod_lt m _ _ _ hm
 have ax:∀n∈d1.weights Tryz.prog 28,n≤reachBytes:=fun n J=>by simpa using List.all_eq_true.1 B _ (DataW.weights_mem_each (j:=1) (t:=28) (d:=d1) rfl rfl n J)
 obtain⟨cK,rfl,_⟩:=okWide_struct Tryz.underlying28 (hval 1 28 v1 rfl rfl);obtain⟨O,ay⟩:=h1;obtain⟨cO,x1,s1⟩:=(FE).2 enc W O _ d1 p1 ay ax (fun b o hm=>I b o (by simp[hm]));have k2:=h2;have aL:∀x∈p2,x.block<W.heap.size:=by obtain⟨m,hm⟩:=k2;exact DataW.trod_lt m _ _ _ hm
 have aN:∀n∈d2.weights Tryz.prog 29,n≤reachBytes:=fun n J=>by simpa using List.all_eq_true.1 B _ (DataW.weights_mem_each (j:=2) (t:=29) (d:=d2) rfl rfl n J)
 obtain⟨a2,X,Y,rfl⟩:=okWide_slice Tryz.underlying29 (hval 2 29 v2 rfl rfl);obtain⟨T,aS⟩:=h2;obtain⟨dz,x2,u2,aV,s2⟩:=(kN Tryz.underlying29 (by kernel_rfl) (gN Tryz.underlying3 (by kernel_rfl)) (by kernel_rfl)).2 enc W T _ d2 p2 aS aN (fun b o hm=>I b o (by simp[hm]));obtain rfl:Value.slice a2 X Y=u2:=by simpa[Value.cells] using aV
 clear U s;refine(Calls.mono (R:=fun e w'=>e=.returned (.bool true)∧Gr W w') ?_ fun e W' ⟨he,hg⟩=>?_)
 ·exact Nl _ _ _ _ _ _ _ _ _ W s0 s1 s2
 ·subst he
  have D:=hg.below;exact⟨_,rfl,_,_,_,[],_,[],ae,trodAll_mk1 (shut_bool Tryz.underlying4 _),(trodAll_cons_mk (Below.trod laidOut (by kernel_rfl) (of_decide_eq_true (by kernel_rfl)) k0 D ah) (trodAll_cons_mk (Below.trod laidOut (by kernel_rfl) (of_decide_eq_true (by kernel_rfl)) k1 D au) (trodAll_cons_mk (Below.trod laidOut (by kernel_rfl) (of_decide_eq_true (by kernel_rfl)) k2 D aL) trodAll_mk0))),rfl,D.frame _,fun h=>by cases h⟩
end Go.Proofs.YtdhighcpmcdmmaaGreat.fnExactIsFixpoint
