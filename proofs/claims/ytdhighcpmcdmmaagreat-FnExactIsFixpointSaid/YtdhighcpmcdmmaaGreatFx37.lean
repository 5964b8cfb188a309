/- Contracts and laws towards ReadsOf, part 37 of 54. No condition. -/
import Derived.Test.YtdhighcpmcdmmaaGreatFx35
set_option maxHeartbeats 32000000
set_option maxRecDepth 10000
set_option linter.unusedVariables false
set_option linter.unusedSimpArgs false
namespace Go.Proofs.YtdhighcpmcdmmaaGreat
open Go.RowKit
open _root_.List (getElem_mem take_length)
open _root_.Nat (le_refl)
variable{d:Nat}
theorem Tryz.MM:(Tryz.prog.info? 81).map (fun i=>(i.zero,i.size,i.bytes))=some (some (.agg #[.string ByteArray.empty,.int .i64 0,.int .i64 0,.bool false]),4,40):=by kernel_rfl
def LU(g:af d)(n:ByteArray):List aQ:=wL ((bW g.1 n).getD dE).2
theorem Lv(xs:List aQ):(wL xs).length≤xs.length:=List.length_filter_le _ _
theorem LH{xs:List aQ}{j:Nat}(h:j<xs.length)(hm:xs[j].2.2.1=1∨xs[j].2.2.1=2):wL (xs.take (j+1))=wL (xs.take j)++[xs[j]]:=by
 unfold wL;rw[List.take_succ_eq_append_getElem h,List.filter_append]
 congr 1
 rcases hm with hm|hm<;>simp[hm]
theorem Nv{xs:List aQ}{j:Nat}(h:j<xs.length)(q:¬xs[j].2.2.1=1)(s:¬xs[j].2.2.1=2):wL (xs.take (j+1))=wL (xs.take j):=by
 unfold wL;rw[List.take_succ_eq_append_getElem h,List.filter_append];simp[q,s]
theorem Nr(p:Int)(xs:List aQ):OP p xs=(wL xs).map fun a=>(p,a.1):=rfl
def OfA(B:World)(gb:Nat)(v1:Value)(h:List Nat)(s1:List aQ)(os:List aQ)(v:Value)(wr:World):Prop:=
 ∃fps:List (List Nat),fps.flatten=[]∧Gr B wr∧bE (α:=aQ) B 81 wr v fps os∧wr.cell? ⟨gb,1,none⟩=some v1∧SlR h wr v1 s1∧∀b∈v.ownBlock.toList,b≠gb∧b∉h
theorem LK{g:af d}{r:aW d}(h:aP g≤1048576):∀p,((List.range p).flatMap (occAt g r)).length≤1048576*p:=by
 intro p
 induction p with
 |zero=>simp
 |succ p q=>
  rw[List.range_succ,List.flatMap_append,List.length_append,List.flatMap_singleton]
  have s:(occAt g r p).length≤1048576:=by
   have B:=Lv (Je g r (p:Int));have D:=tX h (j6 r (p:Int));have E:(occAt g r p).length=(wL (Je g r (p:Int))).length:=by unfold occAt;rw[Nr,List.length_map]
   have H:(Je g r (p:Int)).length=((bW g.1 (j6 r (p:Int))).getD dE).2.length:=rfl;omega
  omega
set_option maxRecDepth 100000 in
theorem MN{fg:List Nat}{cg:Array Value}(g:af d)(n:ByteArray)(w:World)(hg:Rd.rd fg w cg.toList g)(hl:aP g≤1048576):
  Calls Tryz.prog 229 #[.agg cg,.string n] w (p8 w (LU g n)):=by
 obtain⟨i0,hi⟩:=info_parts Tryz.MM;have X:=Kz hi;clear hi;have bV:=Kz hl;clear hl;have HG:=Kz hg;obtain⟨Z,g1,cK,cO,ma,dz,dA,mf,rfl,rfl,-,mh,kT,kV,mo,kX,kZ⟩:=yt hg;clear hg;obtain⟨Y,hY⟩:=nm ((bW Z n).getD dE);have gF:=Kz (show Y.2.length≤1048576 by rw[hY];exact tX bV.o n);have gm:=Kz (show LU (Z,g1) n=wL Y.2 by rw[hY];rfl);have gH:=Kz hY;clear hY;go_in
 go_upto_region 2 with fail
 obtain⟨B,hB⟩:=nm (w.alloc (.cells #[.slice cK Z.length cO,.slice dz g1.length dA] 36));rw[←hB];have gB:Gr w B:=by rw[hB];exact gd
 have b0:B.cell? ⟨w.heap.size,0,none⟩=some (.slice cK Z.length cO):=by rw[hB];exact aJ rfl rfl
 have b1:B.cell? ⟨w.heap.size,1,none⟩=some (.slice dz g1.length dA):=by rw[hB];exact aJ rfl rfl
 have gM:B.heap.size=w.heap.size+1:=by rw[hB];simp
 clear hB;obtain⟨W1,ae⟩:=nm (B.alloc (.cells #[] 81));rw[←ae];have au:=Kz (show Gr B W1 by rw[ae];exact gd);have HO:=Kz (show bE (α:=aQ) B 81 W1 (.slice (some ⟨w.heap.size+1,0,none⟩) 0 0) [] [] by rw[ae];exact bE.kF (α:=aQ) (w0:=B) (w:=B) 81 (le_refl _) gM.symm);have mq:W1.heap.size=w.heap.size+2:=by rw[ae];simp;omega
 have y0:=au.o.keep b0;have y1:=au.o.keep b1;have gT:=blk y0;have dC:=Kz (gB.trans au.o);have dG:=Kz gB;clear ae b0 b1 gB
 go_cut [6] (fun sp wx=>mK w W1 Y sp wx)
 case first=>
  go_wp2_with (first|(go_at_call 59;refine(dX (Z,g1) n _ (Rd.gr HG.o (dC.o.trans ga)) bV.o).mono ?_;rintro e w' ⟨es,fq,rfl,hr,dL,x3,rfl⟩;obtain⟨s0,s1,aS,aV,ah,aZ,rfl,ik,iw,ai,lq,lG⟩:=Lg (x:=(bW Z n).getD dE) hr;have jN:=Kz aZ;have mr:=Lt aZ hr;have bg:=ai.op3;clear hr aZ;obtain⟨bb,bB⟩:∃b:Bool,b=(bW Z n).isSome:=⟨_,rfl⟩;rw[←bB];have mH:=Kz bB;clear bB;have jX:=Kz dL;clear dL))
  all_goals
   go_meet;have hY:Y=(s0,s1):=gH.o.trans jN.o.symm;subst hY;have lV:=dC.o.size;have ax:∀c∈ah,c<w.heap.size∨_≤c:=fun c hc=>(jX.o c (by rw[ik.o];simpa using hc)).imp (Rd.lt HG.o c) id
   refine⟨_,.slice aS s1.length aV,ah,rfl,gd,?_,?_,?_,iw,by first|omega|(simp;done)|(simp;omega),fun c hc=>(ax c hc).imp id (fun h=>by first|omega|(simp at h;omega))⟩
   ·go_simp
   ·go_simp
   ·first
     |(refine ai.gr ?_;(repeat(first|exact Gr.refl _|apply Gr.ext|apply Gr.alloc|apply Gr.drew));done)
     |((with_reducible refine ai.mono (dO ?_));exact fun c hc e=>by subst e;have:=ax _ hc;simp at this;omega)
     |((with_reducible refine ai.mono (dM ?_));exact fun c hc e=>by subst e;have:=ax _ hc;simp at this;omega)
     |((with_reducible refine ai.mono (iR ?_));exact fun c hc e=>by subst e;have:=ax _ hc;simp at this;omega)
 case rest=>
  obtain⟨gb,v8,ah,rfl,g2,d0,dU,dW,mZ,j4,eH⟩:=hcut;obtain⟨s0,s1⟩:=Y;obtain⟨aS,aV,rfl,-,-,-⟩:=dW.open
  rename World=>W2
  have j5:=Kz (show s1.length≤1048576 from gF.o);have l5:s1.length≤1048576:=j5.o;have ku:=Kz (au.o.trans g2);have ky:=Kz (HO.o.gr g2);have kz:=Kz dU;have kE:=Kz dW
  have gD:=Kz (show∀b∈(Value.slice (some ⟨w.heap.size+1,0,none⟩) 0 0).ownBlock.toList,b≠gb∧b∉ah from fun b q=>by
   have H:b=w.heap.size+1:=by first|(simpa[Value.ownBlock] using q.symm)|(simp[Value.ownBlock] at q;omega)
   exact⟨by omega,fun hm=>by have:=eH b hm;omega⟩)
  have nz:=blk dU;clear y0 y1 gT eH g2 j4 d0;go_wp2_with fail
  go_loopw [8,5] (fun s8 s5 wr=>∃j:Nat,j≤s1.length∧OfA B gb (.slice aS s1.length aV) ah s1 (wL (s1.take j)) s5 wr∧s8=.int .i64 j) (fun s8 _ _=>s1.length - (intOf s8).toNat)
  case atStart=>exact⟨0,by omega,⟨[],rfl,ku.o,ky.o,kz.o,kE.o,gD.o⟩,rfl⟩
  case round=>
   obtain⟨j,hj,⟨E,bD,fe,hown,fu,bH,bK⟩,rfl⟩:=hrel;obtain⟨D,O⟩:=nm (wL (s1.take j));rw[←O] at hown
   have l6:D.length≤1048576:=by
    have H:=Lv (s1.take j);have T:(s1.take j).length≤s1.length:=by rw[List.length_take];omega
    rw[O];omega
   have U:=Kz O;have ay:=Kz bD;have I:=Kz fe;have aL:=Kz fu;have J:=Kz bH;have s:=Kz bK;clear bD fe fu bH bK O
   rename World=>W3
   have aN:=Kz hown;obtain⟨rb,rd,bN⟩:=hown.form;subst bN;have c3:=aL.o;have nM:=blk c3;clear hown
   by_cases aj:j<s1.length
   ·have bL:=J.o
    obtain⟨a',c',he,o1,o2,bg⟩:=bL.open;injection he with e1 e2 e3;subst e1 e3;obtain⟨bq,l7,rfl,l8⟩:=bg j aj;obtain⟨q0,q1,q2,q3,K,nO,fw,fA,fK,nP,nS,nZ,oh,oo⟩:=K5 bL aj (Gr.refl _);have HQ:=Kz (And.intro fw (And.intro fA fK));have j0:(0:Int)≤(j:Int):=by omega
    have j1:(j:Int)<(s1.length:Int):=by omega
    have oq:=zI1 j (by omega);clear fw fA fK bL
    by_cases hm:q2=1
    ·have kL:(q2==1)=true:=by simp[hm]
     have HX:=Kz (show wL (s1.take (j+1))=D++[(q0,q1,q2,q3)] by rw[LH aj (.inl (by rw[←K.o];exact hm)),←K.o,U.o]);clear hm
     go_wp2_with (first|(at_builtin;refine eU (α:=aQ) (wg:=B) (w0:=B) (tg I) (le_refl _) (tg I).size rfl _ _ 102 rfl 81 i0 _ _ Tryz.underlying102 X.o.1 X.o.2.1 X.o.2.2.1 X.o.2.2.2 rfl _ E D (by rfl) (aN.o.gr gd) _ [[]] [(q0,q1,q2,q3)] (by rfl) (eT.one (by simp) (jk q0 q1 q2 q3 HQ.o.1 HQ.o.2.1 HQ.o.2.2)) (fun b _=>by simp) (by unfold maxLen;simp;omega) (by simp;omega) ?_;intro v3 w3 H T h3 h4;have K1:=Kz H;have K4:=Kz h4;have K2:=Kz ((show Gr W3 _ from gd).eF _ |>.trans T);have K3:=Kz (show∀b∈v3.ownBlock.toList,b∈(Value.slice rb D.length rd).ownBlock.toList∨W3.heap.size≤b from fun b q=>h3.elim (fun e=>.inl (by rw[e] at q;exact q)) (fun e=>.inr (by rw[e] at q;simp at q;omega)));clear H T h3 h4))
     refine⟨⟨j+1,by omega,⟨E++[[]],by rw[List.flatten_append,ay.o];rfl,K4.o,by rw[HX.o];exact K1.o,K2.o.aO aL.o (fun hm=>(s.o _ hm).1 rfl),J.o.wr K2.o (fun b q hm=>(s.o b hm).2 q),fun b q=>?_⟩,by go_num⟩,by simp[intOf];omega⟩;rcases K3.o b q with h|h
     ·exact s.o b h
     ·have h9:=J.o.lt
      exact⟨by omega,fun hm=>by have:=h9 b hm;omega⟩
    ·have kL:(q2==1)=false:=by simpa using hm
     by_cases hk:q2=2
     ·have kQ:(q2==2)=true:=by simp[hk]
      have HX:=Kz (show wL (s1.take (j+1))=D++[(q0,q1,q2,q3)] by rw[LH aj (.inr (by rw[←K.o];exact hk)),←K.o,U.o]);clear hm hk
      go_wp2_with (first|(at_builtin;refine eU (α:=aQ) (wg:=B) (w0:=B) (tg I) (le_refl _) (tg I).size rfl _ _ 102 rfl 81 i0 _ _ Tryz.underlying102 X.o.1 X.o.2.1 X.o.2.2.1 X.o.2.2.2 rfl _ E D (by rfl) (aN.o.gr gd) _ [[]] [(q0,q1,q2,q3)] (by rfl) (eT.one (by simp) (jk q0 q1 q2 q3 HQ.o.1 HQ.o.2.1 HQ.o.2.2)) (fun b _=>by simp) (by unfold maxLen;simp;omega) (by simp;omega) ?_;intro v3 w3 H T h3 h4;have K1:=Kz H;have K4:=Kz h4;have K2:=Kz ((show Gr W3 _ from gd).eF _ |>.trans T);have K3:=Kz (show∀b∈v3.ownBlock.toList,b∈(Value.slice rb D.length rd).ownBlock.toList∨W3.heap.size≤b from fun b q=>h3.elim (fun e=>.inl (by rw[e] at q;exact q)) (fun e=>.inr (by rw[e] at q;simp at q;omega)));clear H T h3 h4))
      refine⟨⟨j+1,by omega,⟨E++[[]],by rw[List.flatten_append,ay.o];rfl,K4.o,by rw[HX.o];exact K1.o,K2.o.aO aL.o (fun hm=>(s.o _ hm).1 rfl),J.o.wr K2.o (fun b q hm=>(s.o b hm).2 q),fun b q=>?_⟩,by go_num⟩,by simp[intOf];omega⟩;rcases K3.o b q with h|h
      ·exact s.o b h
      ·have h9:=J.o.lt
       exact⟨by omega,fun hm=>by have:=h9 b hm;omega⟩
     ·have kQ:(q2==2)=false:=by simpa using hk
      have HX:=Kz (show wL (s1.take (j+1))=D by rw[Nv aj (by rw[←K.o];exact hm) (by rw[←K.o];exact hk),U.o]);clear hm hk;go_wp2_with fail;refine⟨⟨j+1,by omega,⟨E,ay.o,I.o.trans gd,by rw[HX.o];exact aN.o.gr gd,(show Gr W3 _ from gd).keep aL.o,J.o.gr gd,s.o⟩,by go_num⟩,by simp[intOf];omega⟩
   ·have kS:j=s1.length:=by omega
    subst kS;obtain⟨fq,H,T⟩:=aN.o.fresh (by unfold bn;omega) (by rw[ay.o];exact aY.nil _);have H1:=Kz (show SlR fq W3 (.slice rb D.length rd) (LU (Z,g1) n) by rw[gm.o,←take_length (l:=s1),←U.o];exact H);have H2:=Kz (T.of_le dG.o.size);clear H T;go_wp2_with fail;go_ret;exact⟨_,fq,rfl,H1.o,H2.o,dG.o.trans I.o⟩
theorem BB(fr:List Nat)(cr:Array Value)(r:aW d)(w:World)(hr:Rd.rd fr w cr.toList r)(hl:bF r≤1048576):Qz 284 #[.agg cr] w (.bool (pB (j3 r))):=by
 obtain⟨r0,r1,D,r3,J,I,kS,kT,vC,kV,kX,vD,kZ,lq,vE,rfl,rfl,-,vF,vI,lG,rE,rR,lV,rT,sw,l5,sG,sH⟩:=KV hr;have mZ:=lG.op3;have nz:=lV.op3;have nM:=l5.op3;clear hr;have l6:r0.size+r1.size+wtL ByteArray.size D+wtL aU J+wtL aI I≤1048576:=hl;have l7:r0.size≤2097152:=by omega
 have l8:r1.size≤2097152:=by omega
 have vL:D.length≤1048576:=by have:=bT ByteArray.size D;omega
 have vN:J.length≤1048576:=by have:=bT aU J;omega
 have vO:I.length≤1048576:=by have:=bT aI I;omega
 have HL:=Kz l6;clear hl l6
 by_cases hd:dh r0∧dh r1∧D.length≤3∧I.length≤2
 ·have HD:=Kz hd
  have sN:(D.length:Int)≤3:=by have:=hd.2.2.1;omega
  have sO:(I.length:Int)≤2:=by have:=hd.2.2.2;omega
  clear hd;delta Qz;go_in
  go_wp2_with (first|(go_at_call_of 261 r0;refine(bG _ l7 _).mono ?_;rintro e w' ⟨rfl,dC,rfl⟩;rw[bQ HD.o.1])|(go_at_call_of 261 r1;refine(bG _ l8 _).mono ?_;rintro e w' ⟨rfl,dG,rfl⟩;rw[bQ HD.o.2.1]))
  generalize hB:(((w.alloc (.cells #[.string r0,.string r1,.slice kS D.length kT,.bool r3,.slice kV J.length kX,.slice kZ I.length lq] 112)).ext dC).ext dG)=B;have gB:Gr w B:=gb hB;have ow:=kb hB (w.heap.size) 2 (.slice kS D.length kT);have ma:=kb hB (w.heap.size) 4 (.slice kV J.length kX);have mf:=kb hB (w.heap.size) 5 (.slice kZ I.length lq);clear hB
  go_loopw [36] (fun s4 wr=>∃k:Nat,k≤D.length∧Ky (∀s∈D.take k,dh s)∧Ky (Gr B wr)∧s4=.int .i64 k) (fun s4 _=>D.length - (intOf s4).toNat)
  case atStart=>exact⟨0,by omega,Kz (by simp),Kz (Gr.refl _),rfl⟩
  case round=>
   obtain⟨k,hk,X,K,rfl⟩:=hrel
   rename World=>W1
   have y2:=ow _ K.o;have H:=Kz (gB.trans K.o)
   by_cases E:k<D.length
   ·obtain⟨b,off,rfl,hb⟩:=mZ k E
    have c1:=H.o.keep (lG.jl E).1;obtain⟨y,hy⟩:=nm (D[k]);rw[←hy] at c1;have mh:y.size≤2097152:=by have h1:=dI ByteArray.size D E;have h2:=HL.o;rw[←hy] at h1;omega
    have HY:=Kz hy;have cK:=Kz (fun h=>dD E X.o h);have bL:=Kz (getElem_mem E);clear hy;have k0:(0:Int)≤(k:Int):=by omega
    have mo:(k:Int)<(D.length:Int):=by omega
    have iw:=zI1 k (by omega)
    by_cases dA:dh y
    ·have HN:=Kz dA
     clear dA
     go_wp2_with (first|(go_at_call_of 261 y;refine(bG _ mh _).mono ?_;rintro e w' ⟨rfl,oz,rfl⟩;rw[bQ HN.o]))
     exact⟨⟨k+1,by omega,Kz (cK.o (by rw[←HY.o];exact HN.o)),Kz (tg K),by go_num⟩,by simp[intOf];omega⟩
    ·have HN:=Kz dA
     have HF:=Kz (bz (show¬j3 (r0,r1,D,r3,J,I) from fun h=>HN.o (by rw[HY.o];exact h.2.2.2.2.1 _ bL.o)));clear dA
     go_wp2_with (first|(go_at_call_of 261 y;refine(bG _ mh _).mono ?_;rintro e w' ⟨rfl,oz,rfl⟩;rw[bz HN.o]))
     go_ret;exact⟨aa HF.o.symm,H.o.trans gd⟩
   ·obtain rfl:k=D.length:=by omega
    rw[take_length] at X;have oG:=X;clear X y2;have y4:=ma _ K.o;obtain⟨B2,oH⟩:=nm (W1);go_wp2_with fail
    go_loopw [47] (fun s4 wr=>∃k:Nat,k≤J.length∧Ky (∀q∈J.take k,dh q.1.2∧(0≤q.1.1∧q.1.1≤D.length)∧ko D.length q.2)∧Ky (Gr B wr)∧s4=.int .i64 k) (fun s4 _=>J.length - (intOf s4).toNat)
    case atStart=>exact⟨0,by omega,Kz (by simp),K,rfl⟩
    case round=>
     clear y4 K H oH;clear B2;obtain⟨k,hk,X,K,rfl⟩:=hrel
     rename World=>W2
     have y4:=ma _ K.o;have Y:=gB.trans K.o;have H:=Kz Y
     by_cases E:k<J.length
     ·have cO:=dI aU J E
      have cK:=Kz (fun h=>dD E X.o h);have bL:=Kz (getElem_mem E);obtain⟨b,off,rfl,oK⟩:=nz k E;obtain⟨dz,bN,Z,ae,ah,ai,aj,au,ax,sW,tJ,uh,oL,bV,oN,nO,nP,dL,dU,dW,eH,fe,fu,nS,qR,qV,oV,oW,o9,pG,pM,pR,pV,p9,qo,qD⟩:=KY lV E Y
      have fw:bN.size+ak (Z,ae,ah,ai,aj,au,ax)≤1048576:=by
       have h2:=HL.o;rw[←bV.o] at cO;have h3:aU (((dz,bN),(Z,ae,ah,ai,aj,au,ax)):aX d)=bN.size+ak (Z,ae,ah,ai,aj,au,ax):=rfl;omega
      have mq:bN.size≤2097152:=by omega
      have mr:=Kz (show ak (Z,ae,ah,ai,aj,au,ax)≤1048576 by omega);have mH:=Kz (bJ Z ae ah ai aj au ax dL dU dW eH fe fu nS);clear cO fw Y nO nP dL dU dW eH fe fu;have k0:(0:Int)≤(k:Int):=by omega
      have mo:(k:Int)<(J.length:Int):=by omega
      have iw:=zI1 k (by omega)
      by_cases hp:dh bN∧(0≤dz∧dz≤D.length)∧ko D.length (Z,ae,ah,ai,aj,au,ax)
      ·have U:=Kz hp
       have hb:(decide (0≤dz)&&decide (dz≤(D.length:Int)))=true:=by rw[decide_eq_true hp.2.1.1,decide_eq_true hp.2.1.2];rfl
       clear hp
       go_wp2_with (first|(go_at_call_of 261 bN;refine(bG _ mq _).mono ?_;rintro e w' ⟨rfl,kQ,rfl⟩;rw[bQ U.o.1])|(go_at_call 101;refine(di _ _ _ _).mono ?_;rintro e w' ⟨rfl,rfl⟩;rw[hb])|(go_at_call 322;refine(jH _ _ (Z,ae,ah,ai,aj,au,ax) _ _ (Rd.gr mH.o (tg H)) mr.o).mono ?_;rintro e w' ⟨rfl,x3,rfl⟩;rw[bQ U.o.2.2]))
       exact⟨⟨k+1,by omega,Kz (cK.o (by rw[←bV.o];exact U.o)),Kz (tg K),by go_num⟩,by simp[intOf];omega⟩
      ·have U:=Kz hp
       have HF:=Kz (bz (show¬j3 (r0,r1,D,r3,J,I) from fun h=>U.o (by have h1:=h.2.2.2.2.2.1 _ bL.o;rw[←bV.o] at h1;exact h1)));clear hp
       go_wp2_with (first|(go_at_call_of 261 bN;refine(bG _ mq _).mono ?_;rintro e w' ⟨rfl,kQ,rfl⟩)|(go_at_call 101;refine(di _ _ _ _).mono ?_;rintro e w' ⟨rfl,rfl⟩)|(go_at_call 322;refine(jH _ _ (Z,ae,ah,ai,aj,au,ax) _ _ (Rd.gr mH.o (tg H)) mr.o).mono ?_;rintro e w' ⟨rfl,x3,rfl⟩))
       go_ways
       all_goals first
        |(exfalso;refine U.o ⟨dx.1 ?_,?_,dx.1 ?_⟩<;>first|assumption|(simp_all;done))
        |(go_ret;exact⟨aa HF.o.symm,H.o.trans gd⟩)
       
     ·obtain rfl:k=J.length:=by omega
      rw[take_length] at X;have qE:=X;clear X;have y5:=mf _ K.o;go_wp2_with fail
      go_loopw [75] (fun s4 wr=>∃k:Nat,k≤I.length∧Ky (∀c∈I.take k,dh c.1∧dh c.2.1∧ko D.length c.2.2.1∧ko D.length c.2.2.2)∧Ky (Gr B wr)∧s4=.int .i64 k) (fun s4 _=>I.length - (intOf s4).toNat)
      case atStart=>exact⟨0,by omega,Kz (by simp),K,rfl⟩
      case round=>
       clear y4 y5 K H Y;obtain⟨k,hk,X,K,rfl⟩:=hrel
       rename World=>W3
       have y5:=mf _ K.o;have Y:=gB.trans K.o;have H:=Kz Y
       by_cases E:k<I.length
       ·have cO:=dI aI I E
        have cK:=Kz (fun h=>dD E X.o h);have bL:=Kz (getElem_mem E);obtain⟨b,off,rfl,oK⟩:=nM k E;obtain⟨q0,q1,O,ay,aL,aN,aS,aV,aZ,T,bg,bq,bB,bD,bH,bK,ui,um,uq,uw,uL,uR,oL,bV,oN,qG,qN,fA,fK,gm,gD,gF,gH,nZ,qX,rf,gM,gT,ik,jN,jX,j4,oh,rq,rD,oV,oW,o9,pG,pM,pR,pV,p9,qo,vR,uW,uZ,ve,vo,vv,vB,qD⟩:=KW l5 E Y
        have fw:q0.size+q1.size+ak (O,ay,aL,aN,aS,aV,aZ)+ak (T,bg,bq,bB,bD,bH,bK)≤1048576:=by
         have h2:=HL.o;rw[←bV.o] at cO;have h3:aI ((q0,q1,(O,ay,aL,aN,aS,aV,aZ),(T,bg,bq,bB,bD,bH,bK)):aD d)=q0.size+q1.size+ak (O,ay,aL,aN,aS,aV,aZ)+ak (T,bg,bq,bB,bD,bH,bK):=rfl;omega
        have j5:q0.size≤2097152:=by omega
        have ku:q1.size≤2097152:=by omega
        have ky:=Kz (show ak (O,ay,aL,aN,aS,aV,aZ)≤1048576 by omega);have kz:=Kz (show ak (T,bg,bq,bB,bD,bH,bK)≤1048576 by omega);have kE:=Kz (bJ O ay aL aN aS aV aZ fA fK gm gD gF gH nZ);have kL:=Kz (bJ T bg bq bB bD bH bK gM gT ik jN jX j4 oh);clear cO fw Y qG qN fA fK gm gD gF gH gM gT ik jN jX j4;have k0:(0:Int)≤(k:Int):=by omega
        have mo:(k:Int)<(I.length:Int):=by omega
        have iw:=zI1 k (by omega)
        by_cases hp:dh q0∧dh q1∧ko D.length (O,ay,aL,aN,aS,aV,aZ)∧ko D.length (T,bg,bq,bB,bD,bH,bK)
        ·have U:=Kz hp
         clear hp
         go_wp2_with (first|(go_at_call_of 261 q0;refine(bG _ j5 _).mono ?_;rintro e w' ⟨rfl,oo,rfl⟩;rw[bQ U.o.1])|(go_at_call_of 261 q1;refine(bG _ ku _).mono ?_;rintro e w' ⟨rfl,oq,rfl⟩;rw[bQ U.o.2.1])|(go_at_call_of 322 O;refine(jH _ _ (O,ay,aL,aN,aS,aV,aZ) _ _ (Rd.gr kE.o (tg H)) ky.o).mono ?_;rintro e w' ⟨rfl,x3,rfl⟩;rw[bQ U.o.2.2.1])|(go_at_call_of 322 T;refine(jH _ _ (T,bg,bq,bB,bD,bH,bK) _ _ (Rd.gr kL.o (tg H)) kz.o).mono ?_;rintro e w' ⟨rfl,x4,rfl⟩;rw[bQ U.o.2.2.2]))
         exact⟨⟨k+1,by omega,Kz (cK.o (by rw[←bV.o];exact U.o)),Kz (tg K),by go_num⟩,by simp[intOf];omega⟩
        ·have U:=Kz hp
         have HF:=Kz (bz (show¬j3 (r0,r1,D,r3,J,I) from fun h=>U.o (by have h1:=h.2.2.2.2.2.2 _ bL.o;rw[←bV.o] at h1;exact h1)));clear hp
         go_wp2_with (first|(go_at_call_of 261 q0;refine(bG _ j5 _).mono ?_;rintro e w' ⟨rfl,oo,rfl⟩)|(go_at_call_of 261 q1;refine(bG _ ku _).mono ?_;rintro e w' ⟨rfl,oq,rfl⟩)|(go_at_call_of 322 O;refine(jH _ _ (O,ay,aL,aN,aS,aV,aZ) _ _ (Rd.gr kE.o (tg H)) ky.o).mono ?_;rintro e w' ⟨rfl,x3,rfl⟩)|(go_at_call_of 322 T;refine(jH _ _ (T,bg,bq,bB,bD,bH,bK) _ _ (Rd.gr kL.o (tg H)) kz.o).mono ?_;rintro e w' ⟨rfl,x4,rfl⟩))
         go_ways
         all_goals first
          |(exfalso;refine U.o ⟨dx.1 ?_,dx.1 ?_,dx.1 ?_,dx.1 ?_⟩<;>first|assumption|(simp_all;done))
          |(go_ret;exact⟨aa HF.o.symm,H.o.trans gd⟩)
         
       ·obtain rfl:k=I.length:=by omega
        rw[take_length] at X;have HF:=Kz (bQ (show j3 (r0,r1,D,r3,J,I) from⟨HD.o.1,HD.o.2.1,HD.o.2.2.1,HD.o.2.2.2,oG.o,qE.o,X.o⟩));go_wp2_with fail;go_ret;exact⟨aa HF.o.symm,H.o⟩
 ·have HD:=Kz hd
  have HF:=Kz (bz (show¬j3 (r0,r1,D,r3,J,I) from fun h=>HD.o ⟨h.1,h.2.1,h.2.2.1,h.2.2.2.1⟩));clear hd;delta Qz;go_in
  go_wp2_with (first|(go_at_call_of 261 r0;refine(bG _ l7 _).mono ?_;rintro e w' ⟨rfl,dC,rfl⟩)|(go_at_call_of 261 r1;refine(bG _ l8 _).mono ?_;rintro e w' ⟨rfl,dG,rfl⟩))
  go_ways
  all_goals first
   |(exfalso;refine HD.o ⟨dx.1 ‹_›,dx.1 ‹_›,by omega,by omega⟩;done)
   |(go_ret;exact⟨aa HF.o.symm,gd⟩)
  
theorem Jf{es:List (aX d)}{o:ag}:(es.any fun q=>decide (q.1=o))=pB (o∈es.map Prod.fst):=by
 rw[Bool.eq_iff_iff,dx,List.any_eq_true,List.mem_map];constructor
 ·rintro⟨x,h,s⟩;exact⟨x,h,of_decide_eq_true s⟩
 ·rintro⟨x,h,s⟩;exact⟨x,h,decide_eq_true s⟩
set_option maxRecDepth 100000 in
theorem sD{fg fr:List Nat}{cg cr:Array Value}(g:af d)(r:aW d)(w:World)(hg:Rd.rd fg w cg.toList g)(hr:Rd.rd fr w cr.toList r)(hl:aP g≤1048576)(aS:bF r≤1048576):
    Qz 247 #[.agg cg,.agg cr] w (.bool (!pB (qd g r))):=by
  have fe:=Kz hl;have HG:=Kz hg;obtain⟨g0,g1,fu,fw,l5,fA,fK,l6,rfl,rfl,-,l7,kE,kL,l8,kQ,kS⟩:=yt hg;clear hg;have HR:=Kz hr;obtain⟨K,O,I,r3,s,T,gm,gD,ma,aV,aZ,mf,gF,gH,mh,rfl,rfl,-,mo,mq,mr,kT,kV,ae,kX,kZ,mH,lq,lG⟩:=KV hr;have cK:=ae.op3;clear hr;have gM:K.size+O.size+wtL ByteArray.size I+wtL aU s+wtL aI T≤1048576:=aS;have gT:I.length≤1048576:=by have:=bT ByteArray.size I;omega
  have mZ:s.length≤1048576:=by have:=bT aU s;omega
  obtain⟨Q,hQ⟩:=nm (mg (g0,g1) (K,O,I,r3,s,T));have ah:=Kz hQ;clear hQ hl aS gM;delta Qz;go_in;go_wp2_with fail;refine(uQ (g0,g1) (K,O,I,r3,s,T) _ (Rd.gr HG.o gd) (Rd.gr HR.o gd) fe.o gT).mono ?_;rintro e w' ⟨v,fq,rfl,hs,hf,x1,rfl⟩;rw[←ah.o] at hs;generalize hB:(((w.alloc (.cells #[.slice fu g0.length fw,.slice fA g1.length fK] 36)).alloc (.cells #[.string K,.string O,.slice gm I.length gD,.bool r3,.slice aV s.length aZ,.slice gF T.length gH] 112)).ext x1)=B;have gB:Gr w B:=gb hB;have bg:=kb hB (w.heap.size+1) 4 (.slice aV s.length aZ);have EB:=Kz hB;clear hB;replace hs:SlR fq B v Q:=by rw[←EB.o];exact hs
  obtain⟨aq,kq,rfl,nz,nM,nO⟩:=hs.open;have HS:=Kz hs;have ik:=bg _ (Gr.refl _);clear hs hf;go_wp2_with fail
  go_loopw [14] (fun s7 wr=>∃k:Nat,k≤s.length∧Ky (∀q∈s.take k,q.1∈Q)∧Ky (zh Prod.fst (s.take k))∧Ky (Gr B wr)∧s7=.int .i64 k) (fun s7 _=>s.length - (intOf s7).toNat)
  case atStart=>exact⟨0,by omega,Kz (by simp),Kz (by intro i h;simp at h),Kz (Gr.refl _),rfl⟩
  case round=>
    clear ik;obtain⟨k,hk,HA,HD,X,rfl⟩:=hrel
    rename World=>W1
    have U:=bg _ X.o;have bq:=blk U;have ai:=gB.trans X.o;have Y:=Kz ai
    by_cases H:k<s.length
    · have jN:=Kz (fun h=>dD H HA.o h)
      have jX:=Kz (xx H HD.o);have j4:=Kz (Aa (f:=Prod.fst) (xs:=s) H);have cO:=Kz (getElem_mem H);have j5:=Kz (HS.o.gr X.o);obtain⟨nP,aj,-⟩:=ae.pre hk;have dz:=Kz (aj.gr Y.o);clear aj;obtain⟨b,off,rfl,nS⟩:=cK k H;obtain⟨D,E,bB,bD,bH,bK,bL,bN,bV,au,ax,lV,nZ,Z,oh,ay,aL,dA,dC,dG,dL,dU,dW,eH,ky,kz,oo,oq,ow,oz,oG,oH,oK,oL,oN,oV⟩:=KY ae H ai;have k0:(0:Int)≤(k:Int):=by omega
      have k1:(k:Int)<(s.length:Int):=by omega
      have iw:=zI1 k (by omega);have ku:=Kz (fun W=>bO (w:=W) D E ay aL);clear ai ay aL dA dC dG dL dU dW eH;go_wp2_with fail;generalize hC:(W1.alloc (.cells #[.int .i64 D,.string E,.int .i64 bB,.int .i64 bD,.int .i64 bH,.int .i64 bK,.string bL,.string bN,.slice au bV.length ax] 134))=C;have gC:Gr W1 C:=gb hC;have VC:=Kz (show az C W1.heap.size 134 [.int .i64 D,.string E,.int .i64 bB,.int .i64 bD,.int .i64 bH,.int .i64 bK,.string bL,.string bN,.slice au bV.length ax] from by rw[←hC];exact az.new rfl);have J:=Kz gC;replace U:=gC.keep U;replace bq:=blk U;clear hC gC;refine(vQ Q (D,E) _ (j5.o.gr J.o) (ku.o _)).mono ?_;rintro e w' ⟨rfl,x2,rfl⟩
      by_cases hp:(D,E)∈Q
      · rw[bQ hp]
        have HP:=Kz hp;clear hp;replace U:=(show Gr C (C.ext x2) from gd).keep U;replace bq:=blk U
        have HT:=Kz (show TestEquation (C.ext x2) 290 #[.pointer (some ⟨W1.heap.size,0,none⟩)] (fun q=>decide (q.1=(D,E))) (s.take k) from
          ⟨Tryz.call290,fun z _ x fp cs hr=>DY z (D,E) W1.heap.size _ hr ((VC.o.gr ((gd:Gr C (C.ext x2)).trans gd)).c 0) ((VC.o.gr ((gd:Gr C (C.ext x2)).trans gd)).c 1)⟩)
        obtain⟨M,hM⟩:=nm (pB ((D,E)∈(s.take k).map Prod.fst));have HM:=Kz hM;clear hM
        go_wp2_with (first|(go_at_call 288;refine(jO _ _ (s.take k) _ _ (fun q=>decide (q.1=(D,E))) _ (dz.o.gr (tg J)) HT.o).mono ?_;rintro e w' ⟨rfl,x3,rfl⟩;rw[Jf,←HM.o]))
        go_ways
        all_goals first
          | (have aN:M=true:=by assumption
             have hm:(D,E)∈(s.take k).map Prod.fst:=dx.1 (HM.o.symm.trans aN);go_ret;exact⟨aa (by rw[bz (show¬qd (g0,g1) (K,O,I,r3,s,T) from fun h=>j4.o (by rw[←Z.o];exact hm) h.2)];rfl),Y.o.trans (tg J)⟩)
          | (have aN:M=false:=by assumption
             have hm:¬((D,E)∈(s.take k).map Prod.fst):=lM (HM.o.symm.trans aN);exact⟨⟨k+1,by omega,Kz (jN.o (by rw[←Z.o];exact HP.o)),Kz (jX.o (by rw[←Z.o];exact hm)),Kz (X.o.trans (tg J)),by go_num⟩,by simp[intOf];omega⟩)
         
      · rw[bz hp]
        have HP:=Kz hp;clear hp;go_wp2_with fail;go_ret;exact⟨aa (by rw[bz (show¬qd (g0,g1) (K,O,I,r3,s,T) from fun h=>HP.o (by have h1:=h.1 _ cO.o;rw[←Z.o,←ah.o] at h1;exact h1))];rfl),Y.o.trans (tg J)⟩
    · obtain rfl:k=s.length:=by omega
      rw[take_length] at HA HD;go_wp2_with fail;go_ret;exact⟨aa (by rw[bQ (show qd (g0,g1) (K,O,I,r3,s,T) from⟨fun q hq=>by rw[←ah.o];exact HA.o q hq,HD.o⟩)];rfl),Y.o⟩
end Go.Proofs.YtdhighcpmcdmmaaGreat
