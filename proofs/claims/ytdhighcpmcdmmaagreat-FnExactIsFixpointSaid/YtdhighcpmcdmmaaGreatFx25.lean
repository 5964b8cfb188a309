/- Contracts and laws towards ReadsOf, part 28 of 54. No condition. -/
import Derived.Test.YtdhighcpmcdmmaaGreatFx23
set_option maxHeartbeats 32000000
set_option maxRecDepth 10000
set_option linter.unusedVariables false
set_option linter.unusedSimpArgs false
namespace Go.Proofs.YtdhighcpmcdmmaaGreat
open Go.RowKit
open _root_.List (getElem_mem take_length)
variable{d:Nat}
set_option maxRecDepth 100000 in
theorem uN{fg fr:List Nat}{cg cr:Array Value}(g:af d)(r:aW d)(w:World)(hg:Rd.rd fg w cg.toList g)(hr:Rd.rd fr w cr.toList r)(hl:aP g≤1048576)(hn:r.2.2.1.length≤1048576):
  Calls Tryz.prog 315 #[.agg cg,.agg cr] w (p8 w (mg g r)):=by
 obtain⟨i0,hi⟩:=info_parts Tryz.nX;have HZ:=Kz hi;clear hi;have aZ:=Kz hl;clear hl;have HG:=Kz hg;obtain⟨E,X,dW,eH,qX,fe,fu,rf,rfl,rfl,-,rq,oL,oN,s,oV,oW⟩:=yt hg;clear hg;have HR:=Kz hr;obtain⟨I,J,q,K,O,T,fw,fA,rD,fK,gm,rE,gD,gF,rR,rfl,rfl,-,rT,sw,sG,o9,pG,sH,pM,pR,sN,pV,p9⟩:=KV hr;clear hr;have sO:q.length≤1048576:=hn;have sW:IntKind.i64.wrap ((q.length:Int)+1)=(q.length:Int)+1:=IntWalk.i64_in _ (by omega);clear hn;go_in;go_wp2_with fail;generalize hB:((w.alloc (.cells #[.slice dW E.length eH,.slice fe X.length fu] 36)).alloc (.cells #[.string I,.string J,.slice fw q.length fA,.bool K,.slice fK O.length gm,.slice gD T.length gF] 112))=B;have gB:Gr w B:=gb hB;obtain⟨kE,kL⟩:=kb2 hB (w.heap.size) (.slice dW E.length eH) (.slice fe X.length fu);obtain⟨kQ,kS,kT,kV,kX,kZ⟩:=kb6 hB (w.heap.size+1) (.string I) (.string J) (.slice fw q.length fA) (.bool K) (.slice fK O.length gm) (.slice gD T.length gF);have sB:B.heap.size=w.heap.size+2:=szB hB;clear hB
 go_loopw [6,5] (fun s8 s7 wr=>∃(p:Nat) (fps:List (List Nat)),p≤q.length+1∧Ky (fps.flatten=[])∧Gr B wr∧bE (α:=ag) B 132 wr s7 fps ((List.range p).flatMap (kU (E,X) (I,J,q,K,O,T)))∧s8=.int .i64 p) (fun s8 _ _=>q.length+1 - (intOf s8).toNat)
 case atStart=>exact⟨0,[],by omega,Kz rfl,gd,bE.kF (α:=ag) (w0:=B) (w:=B) 132 (Nat.le_refl _) (by omega),rfl⟩
 case round=>
  obtain⟨p,fps,hp,HF,s,hown,rfl⟩:=hrel;obtain⟨os,ay⟩:=nm ((List.range p).flatMap (kU (E,X) (I,J,q,K,O,T)));rw[←ay] at hown
  have lq:os.length≤1048576*p:=by
   rw[ay];exact zN aZ.o p
  have bg:=Kz ay.symm;have lG:=Kz lq;clear ay
  rename World=>W1
  have lV:=Kz s;have HO:=Kz hown;obtain⟨ra,rc,Z⟩:=hown.form;subst Z;have y0:=kE _ s;have y1:=kL _ s;have y2:=kQ _ s;have y3:=kS _ s;have y4:=kT _ s;have y5:=kV _ s;have y6:=kX _ s;have y7:=kZ _ s;have l5:=blk y2;have gH:=gB.trans s;have bB:=Kz gH;have l6:=Kz (show∀b∈(Value.slice ra os.length rc).ownBlock.toList,B.heap.size≤b∧b<W1.heap.size from fun b H=>hown.base b (by simpa using H));clear hown
  by_cases aL:p≤q.length
  ·have qo:(p:Int)≤(q.length:Int):=by omega
   have p0:(0:Int)≤(p:Int):=by omega
   have tJ:=zI1 p (by omega);obtain⟨S,hS⟩:=nm (j6 (I,J,q,K,O,T) (p:Int));obtain⟨Y,hY⟩:=nm ((bW E S).getD dE);have l7:=Kz (show Y.2.length≤1048576 by rw[hY];exact tX aZ.o S);have l8:=Kz (show kU (E,X) (I,J,q,K,O,T) p=jr (if p=0 then 2 else 1) (p:Int) Y.2 by rw[hY,hS];rfl);have ma:=Kz hY;have mf:=Kz hS;clear hY hS
   go_upto_region 5 with fail
   have mh:=fun(w':World) (h:Gr W1 w')=>(⟨h.keep y0,h.keep y1,h.keep y2,h.keep y3,h.keep y4,h.keep y5,h.keep y6,h.keep y7⟩:_∧_∧_∧_∧_∧_∧_∧_)
   clear gH
   go_cut [7] (fun sp wx=>mK w W1 Y sp wx)
   case first=>
    go_region_held3 (fun w'=>Gr W1 w') (exact ga)
     (first|(go_at_call 184;refine(iG (I,J,q,K,O,T) (p:Int) _ (Rd.gr HR.o (bB.o.trans ga))).mono ?_;rintro e w' ⟨rfl,x2,rfl⟩;rw[←mf.o])|(go_at_call 59;refine(dX (E,X) S _ (Rd.gr HG.o (bB.o.trans ga)) aZ.o).mono ?_;rintro e w' ⟨es,fq,rfl,hr,gM,x3,rfl⟩;obtain⟨s0,s1,bD,bH,au,bK,rfl,mo,mq,ax,qD,qE⟩:=Lg (x:=(bW E S).getD dE) hr;have mr:=Kz bK;have uh:=Lt bK hr;have bL:=ax.op3;clear hr bK;obtain⟨bb,bN⟩:∃b:Bool,b=(bW E S).isSome:=⟨_,rfl⟩;rw[←bN];have ui:=Kz bN;clear bN;have mH:=Kz gM;clear gM))
    all_goals
     go_wp2_with fail;go_meet;have hY:Y=(s0,s1):=ma.o.trans mr.o.symm;subst hY;have aN:∀c∈au,c<w.heap.size∨_≤c:=fun c hc=>(mH.o c (by rw[mo.o];simpa using hc)).imp (Rd.lt HG.o c) id
     refine⟨_,.slice bD s1.length bH,au,rfl,gd,?_,?_,?_,mq,by first|omega|(simp;done)|(simp;omega),fun c hc=>(aN c hc).imp id (fun h=>by simp at h;omega)⟩
     ·go_simp
     ·go_simp
     ·first
       |(refine ax.gr ?_;(repeat(first|exact Gr.refl _|apply Gr.ext|apply Gr.alloc|apply Gr.drew));done)
       |((with_reducible refine ax.mono (dO ?_));exact fun c hc e=>by subst e;have:=aN _ hc;simp at this;omega)
       |((with_reducible refine ax.mono (dM ?_));exact fun c hc e=>by subst e;have:=aN _ hc;simp at this;omega)
       |((with_reducible refine ax.mono (iR ?_));exact fun c hc e=>by subst e;have:=aN _ hc;simp at this;omega)
   case rest=>
    obtain⟨gb,v8,au,rfl,g2,d0,mZ,gT,um,nz,ik⟩:=hcut;obtain⟨s0,s1⟩:=Y;obtain⟨bD,bH,rfl,-,-,-⟩:=gT.open
    rename World=>W2
    clear mh y0 y1 y2 y3 y4 y5 y6 y7 l5;have iw:=Kz (show s1.length≤1048576 from l7.o);have qG:s1.length≤1048576:=iw.o;have nM:=Kz (lV.o.trans g2);have jN:=HO.o.gr g2;have nO:=Kz mZ;have nP:=Kz gT
    have ky:=Kz (show∀b∈(Value.slice ra os.length rc).ownBlock.toList,b≠gb∧b∉au from fun b H=>by
     have h1:=l6.o b H;have h2:=gB.size;exact⟨by omega,fun hm=>by have:=ik b hm;omega⟩)
    clear ik g2 nz d0
    go_upto_if 28 with fail
    go_cut [9] (fun sm wr=>∃D:Int,sm=.int .i64 D∧Ky (D=if p=0 then 2 else 1)∧W2=wr)
    case first=>
     by_cases hz:p=0
     ·have nS:((p:Int)==0)=true:=by simp[hz]
      have bV:=Kz hz;clear hz;go_wp2_with fail;go_meet;exact⟨2,rfl,Kz (by rw[if_pos bV.o]),rfl⟩
     ·have nS:((p:Int)==0)=false:=by simpa using hz
      have bV:=Kz hz;clear hz;go_wp2_with fail;go_meet;exact⟨1,rfl,Kz (by rw[if_neg bV.o]),rfl⟩
    case rest=>
     obtain⟨D,rfl,kz,nZ⟩:=hcut;subst nZ;have oh:=Kz (show kU (E,X) (I,J,q,K,O,T) p=jr D (p:Int) s1 by rw[l8.o,←kz.o]);go_wp2_with fail
     go_loopw [10,5] (fun cK s7 wr=>∃j:Nat,j≤s1.length∧OfX B gb (.slice bD s1.length bH) au s1 (os++jr D (p:Int) (s1.take j)) s7 wr∧cK=.int .i64 j) (fun cK _ _=>s1.length - (intOf cK).toNat)
     case atStart=>exact⟨0,by omega,⟨fps,HF.o,nM.o,by rw[List.take_zero];show bE _ _ _ _ _ (os++[]);rw[List.append_nil];exact jN,nO.o,nP.o,ky.o⟩,rfl⟩
     case round=>
      obtain⟨j,hj,⟨ae,cO,jX,hown,j4,dz,dA⟩,rfl⟩:=hrel;obtain⟨U,ah⟩:=nm (os++jr D (p:Int) (s1.take j));rw[←ah] at hown
      have qN:U.length≤1048576*p+1048576:=by
       rw[ah,List.length_append];have h1:=oI D (p:Int) (s1.take j);have h2:(s1.take j).length≤s1.length:=by rw[List.length_take];omega
       have h3:=iw.o;have h4:=lG.o;omega
      have ai:=Kz ah;have dC:=Kz cO;have aS:=Kz jX;have dG:=Kz j4;have aV:=Kz dz;have aj:=Kz dA;clear cO jX j4 dz dA ah
      rename World=>W3
      have dL:=Kz hown;obtain⟨rb,rd,Z⟩:=hown.form;subst Z;have c3:=dG.o;have uq:=blk c3;clear hown jN
      by_cases aL:j<s1.length
      ·have dU:=aV.o
       obtain⟨a',c',he,o1,o2,bL⟩:=dU.open;injection he with e1 e2 e3;subst e1 e3;obtain⟨bq,qR,rfl,qV⟩:=bL j aL;obtain⟨q0,q1,q2,q3,oo,uw,j5,oq,ow,uL,uR,uW,uZ,ve⟩:=K5 dU aL (Gr.refl _);have HQ:=Kz j5;have ku:=Kz (show jr D (p:Int) (s1.take (j+1))=jr D (p:Int) (s1.take j)++(if q2=D then[((p:Int),q0)] else[]) by rw[pg aL,←oo.o]);have j0:(0:Int)≤(j:Int):=by omega
       have j1:(j:Int)<(s1.length:Int):=by omega
       have vo:=zI1 j (by omega);clear j5 oq ow dU
       by_cases hm:q2=D
       ·have oz:(q2==D)=true:=by simp[hm]
        have HX:=Kz (show os++jr D (p:Int) (s1.take (j+1))=U++[((p:Int),q0)] by rw[ku.o,if_pos hm,ai.o,List.append_assoc]);clear hm
        go_wp2_with (first|(at_builtin;refine eU (α:=ag) (wg:=B) (w0:=B) (tg aS) (Nat.le_refl _) (tg aS).size rfl _ _ 129 rfl 132 i0 _ _ Tryz.underlying129 HZ.o.1 HZ.o.2.1 HZ.o.2.2.1 HZ.o.2.2.2 rfl _ ae U (by rfl) (dL.o.gr gd) _ [[]] [((p:Int),q0)] (by rfl) (eT.one (by simp) (bO _ q0 (jm (by omega) (by omega)) HQ.o)) (fun b _=>by simp) (by unfold maxLen;simp;omega) (by simp;omega) ?_;intro v3 w3 h1 h2 h3 h4;have K1:=Kz h1;have K4:=Kz h4;have K2:=Kz ((show Gr W3 _ from gd).eF _ |>.trans h2);have K3:=Kz (show∀b∈v3.ownBlock.toList,b∈(Value.slice rb U.length rd).ownBlock.toList∨W3.heap.size≤b from fun b H=>h3.elim (fun e=>.inl (by rw[e] at H;exact H)) (fun e=>.inr (by rw[e] at H;simp at H;omega)));clear h1 h2 h3 h4))
        refine⟨⟨j+1,by omega,⟨ae++[[]],by rw[List.flatten_append,dC.o];rfl,K4.o,by rw[HX.o];exact K1.o,K2.o.aO dG.o (fun hm=>(aj.o _ hm).1 rfl),aV.o.wr K2.o (fun b H hm=>(aj.o b hm).2 H),fun b H=>?_⟩,by go_num⟩,by simp[intOf];omega⟩;rcases K3.o b H with h|h
        ·exact aj.o b h
        ·have h9:=aV.o.lt
         exact⟨by omega,fun hm=>by have:=h9 b hm;omega⟩
       ·have oz:(q2==D)=false:=by simpa using hm
        have HX:=Kz (show os++jr D (p:Int) (s1.take (j+1))=U by rw[ku.o,if_neg hm,ai.o,List.append_nil]);clear hm;go_wp2_with fail;refine⟨⟨j+1,by omega,⟨ae,dC.o,aS.o.trans gd,by rw[HX.o];exact dL.o.gr gd,(show Gr W3 _ from gd).keep dG.o,aV.o.gr gd,aj.o⟩,by go_num⟩,by simp[intOf];omega⟩
      ·have oG:j=s1.length:=by omega
       subst oG;have oH:=dL.o;go_wp2_with fail;refine⟨⟨p+1,ae,by omega,dC,aS.o,?_,by go_num⟩,by simp[intOf];omega⟩;rw[take_length] at ai
       have e:(List.range (p+1)).flatMap (kU (E,X) (I,J,q,K,O,T))=U:=by
        rw[ai.o,List.range_succ,List.flatMap_append,bg.o]
        congr 1
        rw[List.flatMap_singleton,oh.o]
       rw[e];exact oH
  ·have oK:p=q.length+1:=by omega
   obtain⟨fq,h1,h2⟩:=HO.o.fresh (by unfold bn;omega) (by rw[HF.o];exact aY.nil _);have H1:=Kz (show SlR fq W1 (.slice ra os.length rc) (mg (E,X) (I,J,q,K,O,T)) by rw[oK] at bg;unfold mg;rw[bg.o];exact h1);have H2:=Kz (h2.of_le gB.size);clear h1 h2;go_wp2_with fail;go_ret;exact⟨_,fq,rfl,H1.o,H2.o,bB.o⟩
theorem Az(fr:List Nat)(cr:Array Value)(r:aW d)(w:World)(hr:Rd.rd fr w cr.toList r)(hl:bF r≤1048576):Qz 270 #[.agg cr] w (.bool (pB (j3 r))):=by
 obtain⟨r0,r1,D,r3,J,I,kS,kT,vC,kV,kX,vD,kZ,lq,vE,rfl,rfl,-,vF,vI,lG,rE,rR,lV,rT,sw,l5,sG,sH⟩:=KV hr;have mZ:=lG.op3;have nz:=lV.op3;have nM:=l5.op3;clear hr;have l6:r0.size+r1.size+wtL ByteArray.size D+wtL aU J+wtL aI I≤1048576:=hl;have l7:r0.size≤2097152:=by omega
 have l8:r1.size≤2097152:=by omega
 have vL:D.length≤1048576:=by have:=bT ByteArray.size D;omega
 have vN:J.length≤1048576:=by have:=bT aU J;omega
 have vO:I.length≤1048576:=by have:=bT aI I;omega
 have HL:=Kz l6;clear hl l6
 by_cases hd:dh r0∧dh r1∧D.length≤3∧I.length≤2
 ·have HD:=Kz hd
  have sN:(D.length:Int)≤3:=by have:=hd.2.2.1;omega
  have sO:(I.length:Int)≤2:=by have:=hd.2.2.2;omega
  clear hd;delta Qz;go_in
  go_wp2_with (first|(go_at_call_of 280 r0;refine(dN _ l7 _).mono ?_;rintro e w' ⟨rfl,dC,rfl⟩;rw[bQ HD.o.1])|(go_at_call_of 280 r1;refine(dN _ l8 _).mono ?_;rintro e w' ⟨rfl,dG,rfl⟩;rw[bQ HD.o.2.1]))
  generalize hB:(((w.alloc (.cells #[.string r0,.string r1,.slice kS D.length kT,.bool r3,.slice kV J.length kX,.slice kZ I.length lq] 112)).ext dC).ext dG)=B;have gB:Gr w B:=gb hB;have ow:=kb hB (w.heap.size) 2 (.slice kS D.length kT);have ma:=kb hB (w.heap.size) 4 (.slice kV J.length kX);have mf:=kb hB (w.heap.size) 5 (.slice kZ I.length lq);clear hB
  go_loopw [4] (fun s4 wr=>∃k:Nat,k≤D.length∧Ky (∀s∈D.take k,dh s)∧Ky (Gr B wr)∧s4=.int .i64 k) (fun s4 _=>D.length - (intOf s4).toNat)
  case atStart=>exact⟨0,by omega,Kz (by simp),Kz (Gr.refl _),rfl⟩
  case round=>
   obtain⟨k,hk,X,K,rfl⟩:=hrel
   rename World=>W1
   have y2:=ow _ K.o;have H:=Kz (gB.trans K.o)
   by_cases E:k<D.length
   ·obtain⟨b,off,rfl,hb⟩:=mZ k E
    have c1:=H.o.keep (lG.jl E).1;obtain⟨y,hy⟩:=nm (D[k]);rw[←hy] at c1;have mh:y.size≤2097152:=by have h1:=dI ByteArray.size D E;have h2:=HL.o;rw[←hy] at h1;omega
    have HY:=Kz hy;have cK:=Kz (fun h=>dD E X.o h);have bL:=Kz (getElem_mem E);clear hy;have k0:(0:Int)≤(k:Int):=by omega
    have mo:(k:Int)<(D.length:Int):=by omega
    have iw:=zI1 k (by omega)
    by_cases dA:dh y
    ·have HN:=Kz dA
     clear dA
     go_wp2_with (first|(go_at_call_of 280 y;refine(dN _ mh _).mono ?_;rintro e w' ⟨rfl,oz,rfl⟩;rw[bQ HN.o]))
     exact⟨⟨k+1,by omega,Kz (cK.o (by rw[←HY.o];exact HN.o)),Kz (tg K),by go_num⟩,by simp[intOf];omega⟩
    ·have HN:=Kz dA
     have HF:=Kz (bz (show¬j3 (r0,r1,D,r3,J,I) from fun h=>HN.o (by rw[HY.o];exact h.2.2.2.2.1 _ bL.o)));clear dA
     go_wp2_with (first|(go_at_call_of 280 y;refine(dN _ mh _).mono ?_;rintro e w' ⟨rfl,oz,rfl⟩;rw[bz HN.o]))
     go_ret;exact⟨aa HF.o.symm,H.o.trans gd⟩
   ·obtain rfl:k=D.length:=by omega
    rw[take_length] at X;have oG:=X;clear X y2;have y4:=ma _ K.o;obtain⟨B2,oH⟩:=nm (W1);go_wp2_with fail
    go_loopw [5] (fun s4 wr=>∃k:Nat,k≤J.length∧Ky (∀q∈J.take k,dh q.1.2∧(0≤q.1.1∧q.1.1≤D.length)∧ko D.length q.2)∧Ky (Gr B wr)∧s4=.int .i64 k) (fun s4 _=>J.length - (intOf s4).toNat)
    case atStart=>exact⟨0,by omega,Kz (by simp),K,rfl⟩
    case round=>
     clear y4 K H oH;clear B2;obtain⟨k,hk,X,K,rfl⟩:=hrel
     rename World=>W2
     have y4:=ma _ K.o;have Y:=gB.trans K.o;have H:=Kz Y
     by_cases E:k<J.length
     ·have cO:=dI aU J E
      have cK:=Kz (fun h=>dD E X.o h);have bL:=Kz (getElem_mem E);obtain⟨b,off,rfl,oK⟩:=nz k E;obtain⟨dz,bN,Z,ae,ah,ai,aj,au,ax,sW,tJ,uh,oL,bV,oN,nO,nP,dL,dU,dW,eH,fe,fu,nS,qR,qV,oV,oW,o9,pG,pM,pR,pV,p9,qo,qD⟩:=KY lV E Y
      have fw:bN.size+ak (Z,ae,ah,ai,aj,au,ax)≤1048576:=by
       have h2:=HL.o;rw[←bV.o] at cO;have h3:aU (((dz,bN),(Z,ae,ah,ai,aj,au,ax)):aX d)=bN.size+ak (Z,ae,ah,ai,aj,au,ax):=rfl;omega
      have mq:bN.size≤2097152:=by omega
      have mr:=Kz (show ak (Z,ae,ah,ai,aj,au,ax)≤1048576 by omega);have mH:=Kz (bJ Z ae ah ai aj au ax dL dU dW eH fe fu nS);clear cO fw Y nO nP dL dU dW eH fe fu;have k0:(0:Int)≤(k:Int):=by omega
      have mo:(k:Int)<(J.length:Int):=by omega
      have iw:=zI1 k (by omega)
      by_cases hp:dh bN∧(0≤dz∧dz≤D.length)∧ko D.length (Z,ae,ah,ai,aj,au,ax)
      ·have U:=Kz hp
       have hb:(decide (0≤dz)&&decide (dz≤(D.length:Int)))=true:=by rw[decide_eq_true hp.2.1.1,decide_eq_true hp.2.1.2];rfl
       clear hp
       go_wp2_with (first|(go_at_call_of 280 bN;refine(dN _ mq _).mono ?_;rintro e w' ⟨rfl,kQ,rfl⟩;rw[bQ U.o.1])|(go_at_call 86;refine(fI _ _ _ _).mono ?_;rintro e w' ⟨rfl,rfl⟩;rw[hb])|(go_at_call 314;refine(jy _ _ (Z,ae,ah,ai,aj,au,ax) _ _ (Rd.gr mH.o (tg H)) mr.o).mono ?_;rintro e w' ⟨rfl,x3,rfl⟩;rw[bQ U.o.2.2]))
       exact⟨⟨k+1,by omega,Kz (cK.o (by rw[←bV.o];exact U.o)),Kz (tg K),by go_num⟩,by simp[intOf];omega⟩
      ·have U:=Kz hp
       have HF:=Kz (bz (show¬j3 (r0,r1,D,r3,J,I) from fun h=>U.o (by have h1:=h.2.2.2.2.2.1 _ bL.o;rw[←bV.o] at h1;exact h1)));clear hp
       go_wp2_with (first|(go_at_call_of 280 bN;refine(dN _ mq _).mono ?_;rintro e w' ⟨rfl,kQ,rfl⟩)|(go_at_call 86;refine(fI _ _ _ _).mono ?_;rintro e w' ⟨rfl,rfl⟩)|(go_at_call 314;refine(jy _ _ (Z,ae,ah,ai,aj,au,ax) _ _ (Rd.gr mH.o (tg H)) mr.o).mono ?_;rintro e w' ⟨rfl,x3,rfl⟩))
       go_ways
       all_goals first
        |(exfalso;refine U.o ⟨dx.1 ?_,?_,dx.1 ?_⟩<;>first|assumption|(simp_all;done))
        |(go_ret;exact⟨aa HF.o.symm,H.o.trans gd⟩)
       
     ·obtain rfl:k=J.length:=by omega
      rw[take_length] at X;have qE:=X;clear X;have y5:=mf _ K.o;go_wp2_with fail
      go_loopw [7] (fun s4 wr=>∃k:Nat,k≤I.length∧Ky (∀c∈I.take k,dh c.1∧dh c.2.1∧ko D.length c.2.2.1∧ko D.length c.2.2.2)∧Ky (Gr B wr)∧s4=.int .i64 k) (fun s4 _=>I.length - (intOf s4).toNat)
      case atStart=>exact⟨0,by omega,Kz (by simp),K,rfl⟩
      case round=>
       clear y4 y5 K H Y;obtain⟨k,hk,X,K,rfl⟩:=hrel
       rename World=>W3
       have y5:=mf _ K.o;have Y:=gB.trans K.o;have H:=Kz Y
       by_cases E:k<I.length
       ·have cO:=dI aI I E
        have cK:=Kz (fun h=>dD E X.o h);have bL:=Kz (getElem_mem E);obtain⟨b,off,rfl,oK⟩:=nM k E;obtain⟨q0,q1,O,ay,aL,aN,aS,aV,aZ,T,bg,bq,bB,bD,bH,bK,ui,um,uq,uw,uL,uR,oL,bV,oN,qG,qN,fA,fK,gm,gD,gF,gH,nZ,qX,rf,gM,gT,ik,jN,jX,j4,oh,rq,rD,oV,oW,o9,pG,pM,pR,pV,p9,qo,vR,uW,uZ,ve,vo,vv,vB,qD⟩:=KW l5 E Y
        have fw:q0.size+q1.size+ak (O,ay,aL,aN,aS,aV,aZ)+ak (T,bg,bq,bB,bD,bH,bK)≤1048576:=by
         have h2:=HL.o;rw[←bV.o] at cO;have h3:aI ((q0,q1,(O,ay,aL,aN,aS,aV,aZ),(T,bg,bq,bB,bD,bH,bK)):aD d)=q0.size+q1.size+ak (O,ay,aL,aN,aS,aV,aZ)+ak (T,bg,bq,bB,bD,bH,bK):=rfl;omega
        have j5:q0.size≤2097152:=by omega
        have ku:q1.size≤2097152:=by omega
        have ky:=Kz (show ak (O,ay,aL,aN,aS,aV,aZ)≤1048576 by omega);have kz:=Kz (show ak (T,bg,bq,bB,bD,bH,bK)≤1048576 by omega);have kE:=Kz (bJ O ay aL aN aS aV aZ fA fK gm gD gF gH nZ);have kL:=Kz (bJ T bg bq bB bD bH bK gM gT ik jN jX j4 oh);clear cO fw Y qG qN fA fK gm gD gF gH gM gT ik jN jX j4;have k0:(0:Int)≤(k:Int):=by omega
        have mo:(k:Int)<(I.length:Int):=by omega
        have iw:=zI1 k (by omega)
        by_cases hp:dh q0∧dh q1∧ko D.length (O,ay,aL,aN,aS,aV,aZ)∧ko D.length (T,bg,bq,bB,bD,bH,bK)
        ·have U:=Kz hp
         clear hp
         go_wp2_with (first|(go_at_call_of 280 q0;refine(dN _ j5 _).mono ?_;rintro e w' ⟨rfl,oo,rfl⟩;rw[bQ U.o.1])|(go_at_call_of 280 q1;refine(dN _ ku _).mono ?_;rintro e w' ⟨rfl,oq,rfl⟩;rw[bQ U.o.2.1])|(go_at_call_of 314 O;refine(jy _ _ (O,ay,aL,aN,aS,aV,aZ) _ _ (Rd.gr kE.o (tg H)) ky.o).mono ?_;rintro e w' ⟨rfl,x3,rfl⟩;rw[bQ U.o.2.2.1])|(go_at_call_of 314 T;refine(jy _ _ (T,bg,bq,bB,bD,bH,bK) _ _ (Rd.gr kL.o (tg H)) kz.o).mono ?_;rintro e w' ⟨rfl,x4,rfl⟩;rw[bQ U.o.2.2.2]))
         exact⟨⟨k+1,by omega,Kz (cK.o (by rw[←bV.o];exact U.o)),Kz (tg K),by go_num⟩,by simp[intOf];omega⟩
        ·have U:=Kz hp
         have HF:=Kz (bz (show¬j3 (r0,r1,D,r3,J,I) from fun h=>U.o (by have h1:=h.2.2.2.2.2.2 _ bL.o;rw[←bV.o] at h1;exact h1)));clear hp
         go_wp2_with (first|(go_at_call_of 280 q0;refine(dN _ j5 _).mono ?_;rintro e w' ⟨rfl,oo,rfl⟩)|(go_at_call_of 280 q1;refine(dN _ ku _).mono ?_;rintro e w' ⟨rfl,oq,rfl⟩)|(go_at_call_of 314 O;refine(jy _ _ (O,ay,aL,aN,aS,aV,aZ) _ _ (Rd.gr kE.o (tg H)) ky.o).mono ?_;rintro e w' ⟨rfl,x3,rfl⟩)|(go_at_call_of 314 T;refine(jy _ _ (T,bg,bq,bB,bD,bH,bK) _ _ (Rd.gr kL.o (tg H)) kz.o).mono ?_;rintro e w' ⟨rfl,x4,rfl⟩))
         go_ways
         all_goals first
          |(exfalso;refine U.o ⟨dx.1 ?_,dx.1 ?_,dx.1 ?_,dx.1 ?_⟩<;>first|assumption|(simp_all;done))
          |(go_ret;exact⟨aa HF.o.symm,H.o.trans gd⟩)
         
       ·obtain rfl:k=I.length:=by omega
        rw[take_length] at X;have HF:=Kz (bQ (show j3 (r0,r1,D,r3,J,I) from⟨HD.o.1,HD.o.2.1,HD.o.2.2.1,HD.o.2.2.2,oG.o,qE.o,X.o⟩));go_wp2_with fail;go_ret;exact⟨aa HF.o.symm,H.o⟩
 ·have HD:=Kz hd
  have HF:=Kz (bz (show¬j3 (r0,r1,D,r3,J,I) from fun h=>HD.o ⟨h.1,h.2.1,h.2.2.1,h.2.2.2.1⟩));clear hd;delta Qz;go_in
  go_wp2_with (first|(go_at_call_of 280 r0;refine(dN _ l7 _).mono ?_;rintro e w' ⟨rfl,dC,rfl⟩)|(go_at_call_of 280 r1;refine(dN _ l8 _).mono ?_;rintro e w' ⟨rfl,dG,rfl⟩))
  go_ways
  all_goals first
   |(exfalso;refine HD.o ⟨dx.1 ‹_›,dx.1 ‹_›,by omega,by omega⟩;done)
   |(go_ret;exact⟨aa HF.o.symm,gd⟩)
  
end Go.Proofs.YtdhighcpmcdmmaaGreat
