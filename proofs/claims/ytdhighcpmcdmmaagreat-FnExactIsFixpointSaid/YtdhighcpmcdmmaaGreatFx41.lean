/- Contracts and laws towards ReadsOf, part 40 of 54. No condition. -/
import Derived.Test.YtdhighcpmcdmmaaGreatFx40
import Derived.Shelf.SlSortCmp.WholeK
import Derived.Shelf.Lay
import Derived.Ground.SlsfProg
import Derived.Sort.LotA
import Derived.Sort.Walk0
set_option maxHeartbeats 32000000
set_option maxRecDepth 10000
set_option linter.unusedVariables false
set_option linter.unusedSimpArgs false
namespace Go.Proofs.YtdhighcpmcdmmaaGreat
open Go.RowKit
open _root_.List (getElem_mem take_length)
open _root_.Nat (le_trans)
variable{d:Nat}
variable{g:af d}{t:List aT}{L:List av}{V:List Int}{p i:Nat}
theorem Tryz.Mj:(Tryz.prog.info? 174).map (fun i=>(i.zero,i.size,i.bytes))=some (some (.agg #[.int .i64 0,.string ByteArray.empty,.int .i64 0]),3,32):=by kernel_rfl
def KX(L:List av)(V:List Int)(p:Nat)(id:Int)(a:aQ):gV:=(((p:Int),a.1),V.getD (gL L (id,a.1)).toNat 0)
theorem M9{m:Nat}(h:m<t.length):qb g t L V p (m:Int)=(((bW g.1 (leftOf g t[m])).getD dE).2).map (KX L V p t[m].1):=by
 unfold qb;rw[gG h];rfl
theorem NA{k:Int}(h:aP g≤1048576):(qb g t L V p k).length≤1048576:=by
 unfold qb
 split
 ·simp
 ·rw[List.length_map]
  exact xn (le_trans (Nat.le_add_right _ _) h) _
theorem Mk{F:Nat→Int}(h:aP g≤1048576)(n:Nat):((List.range n).flatMap fun p=>qb g t L V p (F p)).length≤n*1048576:=by
 have q:=uU (fun p=>qb g t L V p (F p)) 1048576 (List.range n) (fun p _=>NA h);rw[List.length_range] at q;exact q
def Ap(i:Nat)(h:List Int)(p:Nat):Int:=((i:Int)::h).getD p (-1)
theorem OL{h:List Int}:Ap i h 0=i:=rfl
theorem Ou{q:List Int}(h:p<q.length):Ap i q (p+1)=q[p]:=by
 unfold Ap;rw[List.getD_cons_succ,List.getD_eq_getElem?_getD,List.getElem?_eq_getElem h];rfl
theorem M6(h:i<t.length):slotsOf g t L V (i:Int)=(List.range (t[i].2.2.2.2.2.length+1)).flatMap fun p=>qb g t L V p (Ap i t[i].2.2.2.2.2 p):=by
 unfold slotsOf;rw[gG h];rfl
theorem Nw(q:fP g t=true)(h:i<t.length)(B:p≤t[i].2.2.2.2.2.length):∃m:Nat,Ap i t[i].2.2.2.2.2 p=m∧m<t.length:=by
 obtain⟨D,r,E,H,s⟩:=qA q h
 cases p with
 |zero=>exact⟨i,rfl,h⟩
 |succ p=>
  rw[Ou (by omega)];have I:=s (t[i].2.2.2.2.2[p]) (getElem_mem (by omega));exact⟨(t[i].2.2.2.2.2[p]).toNat,by omega,by omega⟩
theorem Oh{fp fo:List Nat}{u:Value}{co:Array Value}(xs:List av)(o:av)(v:Int)(w:World)(h:SlR fp w u xs)(q:Rd.rd fo w co.toList o)(s:gL xs o=v):
  Qz 83 #[u,.agg co] w (.int .i64 v):=by
 rw[←s];exact nC xs o w h q
set_option maxRecDepth 100000 in
theorem MH{fg ft fL fV:List Nat}{cg ct:Array Value}{uL uV:Value}(g:af d)(t:List aT)(i:Nat)(L:List av)(V:List Int)(w:World)(X:Rd.rd fg w cg.toList g)(ht:Rd.rd (α:=fU) ft w ct.toList t)(hL:SlR fL w uL L)(hV:SlR fV w uV V)(hl:aP g≤1048576)(ku:gY t≤1048576)(bN:fP g t=true)(hi:i<t.length)(kz:L=bU g t)(kE:L.length=V.length):
  Calls Tryz.prog 64 #[.agg cg,.agg ct,.int .i64 (i:Int),uL,uV] w (p8 w (slotsOf g t L V (i:Int))):=by
 obtain⟨i0,kQ⟩:=info_parts Tryz.Mj;have HZ:=Kz kQ;clear kQ;have aN:=Kz hl;have pR:=Kz ku;have pV:=Kz bN;have p9:=Kz kz;have qo:=Kz kE;have oG:=Kz hL;have kS:=Kz hV;obtain⟨aL,kL,rfl,-,-,-⟩:=hL.open;obtain⟨aV,kV,rfl,-,-,qD⟩:=hV.open;clear hl ku hL hV;have HG:=Kz X;obtain⟨q,s,kT,kX,zg,kZ,lq,zi,rfl,rfl,-,zl,yu,yL,J,yN,yO⟩:=yt X;clear X;have HT:=Kz ht;obtain⟨t0,zm,lG,zn,rfl,rfl,-,cO,yQ,yT⟩:=K8 ht;have oH:=cO.op3;clear ht;have O:=hi;have dz:=Ah pR.o hi;have au:=fun(p:Nat) (h:p≤t0[i].2.2.2.2.2.length)=>Nw bN hi h
 have dA:slotsOf (q,s) t0 L V (i:Int)=(List.range (t0[i].2.2.2.2.2.length+1)).flatMap fun p=>qb (q,s) t0 L V p (Ap i t0[i].2.2.2.2.2 p):=M6 hi
 obtain⟨b,off,rfl,aS⟩:=oH i O;obtain⟨n0,n1,n2,n3,n4,D,zo,zt,zu,zx,qE,zy,qG,qN,lV,qR,qV,l5,yX,yY,qX,rf,rq,rD,rE,rR,zz⟩:=KZ cO O (Gr.refl _);have oL:=l5.op3;rw[←qE.o] at dz au dA;have y5:D.length≤1048576:=dz;have oN:=Kz (show∀p,p≤D.length→∃m:Nat,Ap i D p=m∧m<t0.length from au);have oW:=Kz (show slotsOf (q,s) t0 L V (i:Int)=(List.range (D.length+1)).flatMap fun p=>qb (q,s) t0 L V p (Ap i D p) from dA);have rT:=Kz l5;have sw:(0:Int)≤(i:Int):=by omega
 have sG:(i:Int)<(t0.length:Int):=by omega
 clear dz au dA qG qN lV qR qV bN kz kE qX rf rq rD rE;go_in;go_wp2_with fail;generalize hB:((w.alloc (.cells #[.slice kT q.length kX,.slice kZ s.length lq] 36)).alloc (.cells #[.slice (some ⟨b,off,none⟩) t0.length lG] 40))=B;have gB:Gr w B:=gb hB;obtain⟨l6,l7⟩:=kb2 hB (w.heap.size) (.slice kT q.length kX) (.slice kZ s.length lq);have l8:=kb hB (w.heap.size+1) 0 (.slice (some ⟨b,off,none⟩) t0.length lG);have sB:B.heap.size=w.heap.size+2:=szB hB;clear hB
 go_loopw [12,11] (fun dC aj wr=>∃(p:Nat) (fps:List (List Nat)),p≤D.length+1∧Ky (fps.flatten=[])∧Gr B wr∧bE (α:=gV) B 174 wr aj fps ((List.range p).flatMap fun p=>qb (q,s) t0 L V p (Ap i D p))∧dC=.int .i64 p) (fun dC _ _=>D.length+1 - (intOf dC).toNat)
 case atStart=>exact⟨0,[],by omega,Kz rfl,gd,bE.kF (α:=gV) (w0:=B) (w:=B) 174 (Nat.le_refl _) (by omega),rfl⟩
 case round=>
  obtain⟨p,fps,hp,HF,J,hown,rfl⟩:=hrel;obtain⟨M0,aZ⟩:=nm ((List.range p).flatMap fun p=>qb (q,s) t0 L V p (Ap i D p));have o9:M0.length≤p*1048576:=by rw[aZ];exact Mk (F:=Ap i D) aN.o p
  rw[←aZ] at hown;have ma:=Kz aZ;have pG:=Kz o9
  rename World=>W1
  have sH:=Kz J;have HO:=Kz hown;obtain⟨E,rc,ai⟩:=hown.form;subst ai;have y0:=l6 _ J;have y1:=l7 _ J;have y2:=l8 _ J;have dG:=blk y0;have dL:=blk y2;have dU:Gr w W1:=gB.trans J;have u5:=dU.keep rR;have sN:=blk u5;have ae:=Kz dU;clear hown aZ J
  by_cases pM:p≤D.length
  ·have hle:(p:Int)≤(D.length:Int):=by omega
   have H:(0:Int)≤(p:Int):=by omega
   obtain⟨m,hm,bg⟩:=oN.o p pM;have mf:=Kz hm;have O:=bg;clear dU;obtain⟨q0,q1,q2,q3,q4,q5,zA,zC,zF,zH,bq,zL,mh,sO,sW,tJ,uh,ui,y7,y8,um,uq,uw,uR,uW,uZ,zO⟩:=KZ cO O (Gr.refl _);have ve:=Kz mh;have vo:=um;clear uq uw uR uW uZ mh sO sW tJ uh ui;have j0:(0:Int)≤(m:Int):=by omega
   have j1:(m:Int)<(t0.length:Int):=by omega
   have hs:zB (q,s) t0 (m:Int)=leftOf (q,s) (q0,q1,q2,q3,q4,q5):=by unfold zB;rw[gG bg,←bq.o]
   have HS:=Kz hs;obtain⟨Y,hY⟩:=nm ((bW q (leftOf (q,s) (q0,q1,q2,q3,q4,q5))).getD dE);have vB:=Kz (show qb (q,s) t0 L V p (Ap i D p)=Y.2.map (KX L V p q0) by rw[hm,M9 bg,hY,←bq.o]);have mo:=Kz hY
   have vC:=Kz (fun(a:aQ) (ha:a∈Y.2)=>(show∃j:Nat,gL L (q0,a.1)=j∧j<L.length from by
    have h9:=NY pV.o bg (a:=a) (by rw[←bq.o,←hY];exact ha);rw[←p9.o,←bq.o] at h9;exact h9))
   clear hs hY hm
   go_upto_if 32 with fail
   go_cut [13] (fun vD wr=>vD=.int .i64 (m:Int)∧W1=wr)
   case first=>
    rcases Nat.eq_zero_or_pos p with T|T
    ·have vE:m=i:=by have Z:=mf.o;rw[T,OL] at Z;omega
     have zS:¬((p:Int)>0):=by omega
     clear T;go_wp2_with fail;go_meet;exact⟨by rw[vE],rfl⟩
    ·obtain⟨r,hr⟩:∃r,p=r+1:=⟨p - 1,by omega⟩
     have dW:r<D.length:=by omega
     have vF:D[r]=(m:Int):=by have Z:=mf.o;rw[hr,Ou dW] at Z;exact Z
     obtain⟨bK,oK,rfl,zV⟩:=oL r dW;have cK:=ae.o.keep (rT.o.fQ dW).1;rw[vF] at cK;have zW:=blk cK;have zX:IntKind.i64.wrap ((p:Int) - 1)=(r:Int):=by rw[IntWalk.i64_in _ (by omega)];omega
     have z8:(p:Int)>0:=by omega
     have k0:(0:Int)≤(r:Int):=by omega
     have k1:(r:Int)<(D.length:Int):=by omega
     clear hr T;go_wp2_with fail;go_meet;exact⟨rfl,rfl⟩
   case rest=>
    obtain⟨rfl,vI⟩:=hcut;subst vI
    go_upto_region 8 with fail
    have k0:=fun(w':World) (h:Gr W1 w')=>h.keep y0
    have k1:=fun(w':World) (h:Gr W1 w')=>h.keep y1
    have k2:=fun(w':World) (h:Gr W1 w')=>h.keep y2
    go_cut [14] (fun vL wr=>mK w W1 Y vL wr)
    case first=>
     go_region_held3 (fun w'=>Gr W1 w') (exact ga)
      (first|(go_at_call 38;refine(iC (q,s) t0 (m:Int) _ (Rd.gr HG.o (ae.o.trans ga)) (Rd.gr HT.o (ae.o.trans ga)) aN.o).mono ?_;rintro e w' ⟨rfl,x2,rfl⟩;rw[HS.o])|(go_at_call 59;refine(dX (q,s) (leftOf (q,s) (q0,q1,q2,q3,q4,q5)) _ (Rd.gr HG.o (ae.o.trans ga)) aN.o).mono ?_;rintro e w' ⟨es,fq,rfl,hr,mq,x3,rfl⟩;obtain⟨r0,r1,vN,vO,mr,eH,rfl,vR,vU,fe,y9,za⟩:=Lg (x:=(bW q (leftOf (q,s) (q0,q1,q2,q3,q4,q5))).getD dE) hr;have vV:=Kz eH;have Ab:=Lt eH hr;clear hr eH;obtain⟨bb,aS⟩:∃b:Bool,b=(bW q (leftOf (q,s) (q0,q1,q2,q3,q4,q5))).isSome:=⟨_,rfl⟩;rw[←aS];have Ad:=Kz aS;clear aS;have vW:=Kz mq;clear mq))
     all_goals
      go_wp2_with fail;go_meet;have hY:Y=(r0,r1):=mo.o.trans vV.o.symm;subst hY;have fu:∀c∈mr,c<w.heap.size∨_≤c:=fun c hc=>(vW.o c (by rw[vR.o];simpa using hc)).imp (Rd.lt HG.o c) id
      have Ae:=ae.o.size;refine⟨_,.slice vN r1.length vO,mr,rfl,gd,?_,?_,?_,vU,by first|omega|(simp;done)|(simp;omega),fun c hc=>(fu c hc).imp id (fun h=>by first|omega|(simp at h;omega))⟩
      ·exact kd
      ·exact kd
      ·first
        |(refine fe.gr ?_;(repeat(first|exact Gr.refl _|apply Gr.ext|apply Gr.alloc|apply Gr.drew));done)
        |((with_reducible refine fe.mono (dO ?_));exact fun c hc e=>by subst e;have:=fu _ hc;simp at this;omega)
        |((with_reducible refine fe.mono (dM ?_));exact fun c hc e=>by subst e;have:=fu _ hc;simp at this;omega)
    case rest=>
     obtain⟨b8,v8,fr,rfl,fw,d0,d1,sl,-,zb,mH⟩:=hcut
     rename World=>W6
     obtain⟨ay,ky,rfl,Ag,AA,vX⟩:=sl.open;have z0:=blk d0;have bB:=Kz sl;have fA:=Kz fw;have AU:Y.2.length≤1048576:=by have:=aN.o;rw[mo.o];exact xn (le_trans (Nat.le_add_right _ _) this) _
     have mZ:=Kz (show∀b,(Value.slice E M0.length rc).ownBlock=some b→B.heap.size≤b∧b<W1.heap.size from HO.o.base);have AZ:=fw.size
     have fK:∀c∈fr,c∉(Value.slice E M0.length rc).ownBlock.toList:=fun c hc hm=>by
      have Z:=mZ.o c (by simpa using hm);have:=gB.size;rcases mH c hc with h|h<;>omega
     have ax:=Kz fK;have nz:b8∉(Value.slice E M0.length rc).ownBlock.toList:=fun hm=>by have:=mZ.o b8 (by simpa using hm);omega
     have gm:=Kz nz;obtain⟨O0,gD⟩:=nm ((Value.slice E M0.length rc).ownBlock);rw[←gD] at ax gm;have wm:=Kz gD;clear k0 k1 k2 sl fw fK nz mH gD y0 y1 y2 dG dL u5 sN;go_wp2_with fail
     go_loopw [16,11] (fun gF aj wr=>∃(j:Nat) (fps:List (List Nat)),j≤Y.2.length∧Ky (fps.flatten=[])∧Gr B wr∧Wr O0.toList W6 wr∧Ky (aj.ownBlock=O0∨∃n,aj.ownBlock=some n∧W6.heap.size≤n)∧bE (α:=gV) B 174 wr aj fps (M0++(Y.2.take j).map (KX L V p q0))∧gF=.int .i64 j) (fun gF _ _=>Y.2.length - (intOf gF).toNat)
     case atStart=>exact⟨0,fps,by omega,HF,sH.o.trans fA.o,Wr.refl _ _,Kz (.inl wm.o.symm),by simpa using HO.o.gr fA.o,rfl⟩
     case round=>
      obtain⟨j,fps,hj,HF,X,bD,HV,hown,rfl⟩:=hrel
      rename World=>W7
      have gH:=Kz X;have wz:=Kz bD;obtain⟨M,hM⟩:=nm (M0++(Y.2.take j).map (KX L V p q0));have A8:M.length≤p*1048576+1048576:=by rw[hM,List.length_append,List.length_map,List.length_take];have:=pG.o;omega
      rw[←hM] at hown;have nM:=Kz hown;obtain⟨E,rc,ai⟩:=hown.form;have HM:=Kz hM;have y0:=l6 _ X;have y1:=l7 _ X;have y2:=l8 _ X;have dG:=blk y0;have dL:=blk y2;have e5:=bD.aO d1 gm.o;have wF:=blk e5;have wI:=Kz (bB.o.wr bD ax.o);have nO:=(gB.trans X).keep vo;have wK:=blk nO;clear X bD hown hM;subst ai
      by_cases U:j<Y.2.length
      ·have O:=U
       have nP:=wI.o;obtain⟨bp,ze,rfl,zf⟩:=vX j O;obtain⟨H,p1,p2,p3,nS,Bu,T,wN,wO,nZ,wP,wZ,xc,xg⟩:=K5 nP O (Gr.refl _);have gM:=Kz (And.intro ve.o T);obtain⟨jx,gT,BF⟩:=vC.o (H,p1,p2,p3) (by rw[nS.o];exact getElem_mem U);have xR:=Kz (show gL L (q0,H)=(jx:Int) from gT);have bH:jx<V.length:=by have:=qo.o;omega
       obtain⟨bV,oV,rfl,BM⟩:=qD jx bH;have cV:=(kS.o.fQ bH).1;have oh:=Kz (kS.o.fQ bH).2;obtain⟨vv,ik⟩:=nm (V[jx]);rw[←ik] at cV oh
       have xS:=Kz (show KX L V p q0 (H,p1,p2,p3)=(((p:Int),H),vv) by
        unfold KX;rw[show gL L (q0,(H,p1,p2,p3).1)=(jx:Int) from gT,Int.toNat_natCast,ik,List.getD_eq_getElem?_getD,List.getElem?_eq_getElem bH];rfl)
       clear nP T wN wO gT ik;have sw:(0:Int)≤(j:Int):=by omega
       have sG:(j:Int)<(Y.2.length:Int):=by omega
       have BR:(0:Int)≤(jx:Int):=by omega
       have BU:(jx:Int)<(V.length:Int):=by omega
       have BX:=zI1 j (by omega)
       go_upto_region 12 with fail
       refine wg ?_
       repeat(go_big_quiet_step ((go_at_call 83;exact aG (Oh L (q0,H) (jx:Int) _ (oG.o.gr ((gB.trans gH.o).trans gd)) (bZ q0 H gM.o.1 gM.o.2) xR.o))))
       refine wq fun nx=>?_
       go_wp2_with fail;obtain⟨I,iw⟩:=nm (W7.ext nx);rw[←iw];have ah:Gr W7 I:=by rw[iw];exact gd
       have bL:=Kz (gH.o.trans ah);have jN:=Kz (wz.o.gr ah);have x9:=Kz (nM.o.gr ah);have oo:=ah.keep e5;have oq:=ah.keep nZ;have Cf:=blk oo;have Cg:=blk oq;clear iw ah y0 y1 y2 dG dL nO wK e5 wF nZ wP wZ xc xg
       have jX:∀c,c<W6.heap.size→c∉O0.toList→c∉(Value.slice E M.length rc).ownBlock.toList:=fun c hc hn hm=>by
        rcases HV.o with e|⟨n,e,lV⟩
        ·rw[e] at hm;exact hn hm
        ·rw[e] at hm;simp at hm;omega
       have j4:=jX b8 z0 gm.o;have j5:=jX bp (bB.o.lt bp (bB.o.vY (by intro e;rw[e] at U;simp at U))) (ax.o bp (bB.o.vY (by intro e;rw[e] at U;simp at U)));have Ch:=fun(w':World) (h:Wr (Value.slice E M.length rc).ownBlock.toList I w')=>(⟨h.aO oo j4,h.aO oq j5⟩:_∧_)
       have Ci:=fun(w':World) (h:Gr B w')=>(gB.trans h).keep cV
       clear jX j4 j5;refine eB (fun w'=>Wr (Value.slice E M.length rc).ownBlock.toList I w'∧Gr B w') 16 (by kernel_rfl) (⟨(Gr.drew (Gr.refl I)).eF _,bL.o.drew⟩) (fun hU=>?_);refine bR 0 ?_;refine bR 1 ?_;refine bR 2 ?_;refine bR 4 ?_;refine bR 9 ?_;refine bR 10 ?_;refine bR 3 ?_;refine bR 11 ?_;refine bR 5 ?_;refine bR 12 ?_;refine bR 6 ?_;refine bR 7 ?_;refine bR 8 ?_;refine bR 13 ?_;refine dw [14] ?_;refine(bf.cons rfl (fun K hK=>?_) bf.nil);go_simp;refine hK.out _ _ ⟨(gd:Gr I ((I.alloc (.cells #[.int .i64 (p:Int),.string H,.int .i64 vv] 174)).drew)).eF _,bL.o.trans gd⟩ (fun Ck=>?_);clear hK K
       try simp only[Act.put,uq1,uq2,uq3]
       refine dw [15] ?_
       refine(bf.cons rfl (fun K hK=>?_) bf.nil);refine gU (α:=gV) (wg:=B) (w0:=B) (tg bL) (Nat.le_refl _) (tg bL).size (by rfl) _ _ _ (by rfl) 174 i0 _ _ Tryz.underlying121 HZ.o.1 HZ.o.2.1 HZ.o.2.2.1 HZ.o.2.2.2 rfl (.slice E M.length rc) fps _ (by rfl) (x9.o.gr gd) _ [[]] [(((p:Int),H),vv)] (by rfl) ((eT.one (w:=I) (g:=I.heap.size) rfl (Mo (p:Int) H vv (jm (by omega) (by omega)) gM.o.2 oh.o)).gr gd) (fun b _=>by simp) (by unfold maxLen;simp;omega) (by simp;omega) ?_;intro v9 w9 k1 k2 k3 k4
       replace k1:=Kz k1;have yc:Wr (Value.slice E M.length rc).ownBlock.toList I w9:=((gd:Gr I ((I.alloc (.cells #[.int .i64 (p:Int),.string H,.int .i64 vv] 174)).drew)).eF _).trans k2;replace k2:=Kz k2;replace k3:=Kz k3;replace k4:=Kz k4;refine hK.out _ _ ⟨yc,k4.o⟩ (fun Cx=>?_);clear hK K
       try simp only[Act.put,uq1,uq2,uq3]
       refine dw [16] ?_
       refine bf.last rfl (fun K hK=>?_)
       go_simp;refine hK.out _ _ ?_;clear hK K
       try simp only[Act.put,uq1,uq2,uq3]
       refine fF (by kernel_rfl) ?_ _
       go_wp2_with fail;have ow:Wr (Value.slice E M.length rc).ownBlock.toList _ w9:=k2.o;have oz:v9.ownBlock=(Value.slice E M.length rc).ownBlock∨_:=k3.o;have yf:=Kz ow;have yh:=Kz oz;clear ow oz;refine⟨⟨j+1,fps++[[]],by omega,Kz (by rw[List.flatten_append,HF.o];rfl),k4.o,jN.o.more HV.o (((gd:Gr I _).eF _).trans yf.o),Kz (tq HV.o yh.o (le_trans jN.o.size (by simp<;>omega))),?_,by go_num⟩,by simp[intOf];omega⟩
       have e:M0++(Y.2.take (j+1)).map (KX L V p q0)=M++[(((p:Int),H),vv)]:=by
        rw[List.take_succ_eq_append_getElem U,List.map_append,←List.append_assoc,←HM.o,←nS.o,List.map_cons,List.map_nil,xS.o]
       have Z:=k1.o;rw[e];exact Z
      ·have ym:j=Y.2.length:=by omega
       subst ym;go_wp2_with fail;refine⟨⟨p+1,fps,by omega,HF,gH.o.trans gd,?_,by go_num⟩,by simp[intOf];omega⟩
       have e:((List.range (p+1)).flatMap fun p=>qb (q,s) t0 L V p (Ap i D p))=M:=by
        rw[List.range_succ,List.flatMap_append,←ma.o,List.flatMap_singleton,vB.o,HM.o,take_length]
       rw[e];exact nM.o.gr gd
  ·have yo:p=D.length+1:=by omega
   have Cy:¬((p:Int)≤(D.length:Int)):=by omega
   obtain⟨fq,Z,h2⟩:=HO.o.fresh (by unfold bn;omega) (by rw[HF.o];exact aY.nil _);have H1:=Kz (show SlR fq W1 (.slice E M0.length rc) (slotsOf (q,s) t0 L V (i:Int)) by rw[oW.o,←yo,←ma.o];exact Z);have H2:=Kz (h2.of_le gB.size);clear Z h2;go_wp2_with fail;go_ret;exact⟨_,fq,rfl,H1.o,H2.o,ae.o⟩
open Go.RowKit Go.Shelf Go.Lib Go.Sort
def soR:Go.Shelf.Ren:=⟨fun|6=>219|15=>256|14=>255|28=>304|29=>305|20=>296|21=>297|22=>298|23=>299|24=>300|25=>301|26=>302|27=>303|46=>324|47=>325|48=>326|49=>327|50=>328|57=>333|n=>n,fun|22=>129|24=>132|25=>249|3=>3|39=>262|0=>0|53=>290|55=>292|4=>4|46=>283|45=>282|50=>287|5=>5|9=>9|66=>299|70=>303|76=>306|77=>168|n=>n,fun|n=>n⟩
theorem soL:Go.Proofs.SlLaysF0.n6 Tryz.prog soR:={
  mixed:=by kernel_rfl
  f6:=⟨Tryz.f219.name,by decide,Tryz.func219.trans (congrArg some (by kernel_rfl))⟩
  f14:=⟨Tryz.f255.name,by decide,Tryz.func255.trans (congrArg some (by kernel_rfl))⟩
  f15:=Tryz.func256.trans (congrArg some (by kernel_rfl))
  f20:=⟨Tryz.f296.name,by decide,Tryz.func296.trans (congrArg some (by kernel_rfl))⟩
  f21:=⟨Tryz.f297.name,by decide,Tryz.func297.trans (congrArg some (by kernel_rfl))⟩
  f22:=⟨Tryz.f298.name,by decide,Tryz.func298.trans (congrArg some (by kernel_rfl))⟩
  f23:=⟨Tryz.f299.name,by decide,Tryz.func299.trans (congrArg some (by kernel_rfl))⟩
  f24:=⟨Tryz.f300.name,by decide,Tryz.func300.trans (congrArg some (by kernel_rfl))⟩
  f25:=⟨Tryz.f301.name,by decide,Tryz.func301.trans (congrArg some (by kernel_rfl))⟩
  f26:=⟨Tryz.f302.name,by decide,Tryz.func302.trans (congrArg some (by kernel_rfl))⟩
  f27:=⟨Tryz.f303.name,by decide,Tryz.func303.trans (congrArg some (by kernel_rfl))⟩
  f28:=Tryz.func304.trans (congrArg some (by kernel_rfl))
  f29:=Tryz.func305.trans (congrArg some (by kernel_rfl))
  f46:=⟨Tryz.f324.name,by decide,Tryz.func324.trans (congrArg some (by kernel_rfl))⟩
  f47:=Tryz.func325.trans (congrArg some (by kernel_rfl))
  f48:=Tryz.func326.trans (congrArg some (by kernel_rfl))
  f49:=⟨Tryz.f327.name,by decide,Tryz.func327.trans (congrArg some (by kernel_rfl))⟩
  f50:=⟨Tryz.f328.name,by decide,Tryz.func328.trans (congrArg some (by kernel_rfl))⟩
  f57:=⟨Tryz.f333.name,by decide,Tryz.func333.trans (congrArg some (by kernel_rfl))⟩
  t0:=Tryz.underlying0
  a0:=Tryz.isAgg0
  z0:=Tryz.sizeOf0
  v0:=Tryz.zeroValue0
  t3:=Tryz.underlying3
  a3:=Tryz.isAgg3
  z3:=Tryz.sizeOf3
  v3:=Tryz.zeroValue3
  t4:=Tryz.underlying4
  a4:=Tryz.isAgg4
  z4:=Tryz.sizeOf4
  v4:=Tryz.zeroValue4
  t5:=Tryz.underlying5
  a5:=Tryz.isAgg5
  z5:=Tryz.sizeOf5
  v5:=Tryz.zeroValue5
  t9:=Tryz.underlying9
  a9:=Tryz.isAgg9
  z9:=Tryz.sizeOf9
  v9:=Tryz.zeroValue9
  t22:=Tryz.underlying129
  a22:=Tryz.isAgg129
  z22:=Tryz.sizeOf129
  v22:=Tryz.zeroValue129
  t25:=Tryz.underlying249
  a25:=Tryz.isAgg249
  z25:=Tryz.sizeOf249
  v25:=Tryz.zeroValue249
  t39:=Tryz.underlying262
  a39:=Tryz.isAgg262
  z39:=Tryz.sizeOf262
  v39:=Tryz.zeroValue262
  t45:=Tryz.underlying282
  a45:=Tryz.isAgg282
  z45:=Tryz.sizeOf282
  v45:=Tryz.zeroValue282
  t46:=Tryz.underlying283
  a46:=Tryz.isAgg283
  z46:=Tryz.sizeOf283
  v46:=Tryz.zeroValue283
  t50:=Tryz.underlying287
  a50:=Tryz.isAgg287
  z50:=Tryz.sizeOf287
  v50:=Tryz.zeroValue287
  t53:=Tryz.underlying290
  a53:=Tryz.isAgg290
  z53:=Tryz.sizeOf290
  v53:=Tryz.zeroValue290
  t55:=Tryz.underlying292
  a55:=Tryz.isAgg292
  z55:=Tryz.sizeOf292
  v55:=Tryz.zeroValue292
  t66:=Tryz.underlying299
  a66:=Tryz.isAgg299
  z66:=Tryz.sizeOf299
  v66:=Tryz.zeroValue299
  t70:=Tryz.underlying303
  a70:=Tryz.isAgg303
  z70:=Tryz.sizeOf303
  v70:=Tryz.zeroValue303
  t76:=Tryz.underlying306
  a76:=Tryz.isAgg306
  z76:=Tryz.sizeOf306
  v76:=Tryz.zeroValue306
  t77:=Tryz.underlying168
  a77:=Tryz.isAgg168
  z77:=Tryz.sizeOf168
  v77:=Tryz.zeroValue168}
def nJ(x:ag):List Value:=[.int .i64 x.1,.string x.2]
theorem G9(x y:ag):ltOf sI x y=(decide (x.1<y.1)||(decide (x.1=y.1)&&ltStr x.2.toList y.2.toList)):=by
 unfold ltOf sI wJ sM tN ltStr;rw[bytesLess_eq]
 by_cases B:x.1<y.1
 ·simp[B]
 ·by_cases D:y.1<x.1
  ·have h:x.1≠y.1:=by omega
   simp[B,D,h]
  ·have h:x.1=y.1:=by omega
   by_cases q:x.2.toList<y.2.toList
   ·simp[h,q]
   ·by_cases s:x.2.toList=y.2.toList
    ·have E:¬y.2.toList<y.2.toList:=by rw[←s] at q ⊢;exact q
     simp[h,s,E]
    ·simp[h,q,s]
theorem JJ:SWO (ltOf sI) where
 irrefl x:=by rw[G9,swo_ltStr.irrefl];simp
 trans x y z s B:=by
  rw[G9] at*;simp only[Bool.or_eq_true,Bool.and_eq_true,decide_eq_true_eq] at*;rcases s with s|⟨s,h⟩<;>rcases B with B|⟨B,q⟩
  ·exact .inl (by omega)
  ·exact .inl (by omega)
  ·exact .inl (by omega)
  ·exact .inr ⟨by omega,swo_ltStr.trans _ _ _ h q⟩
 ntrans x y z s B:=by
  rw[G9] at*;simp only[Bool.or_eq_false_iff,Bool.and_eq_false_iff,decide_eq_false_iff_not] at*;refine⟨by omega,?_⟩;rcases s.2 with h|h
  ·exact .inl (by omega)
  ·rcases B.2 with q|q
   ·exact .inl (by omega)
   ·exact .inr (swo_ltStr.ntrans _ _ _ h q)
theorem Em(blk off size:Nat)(w:World):CmpLays Tryz.prog 220 #[] nJ 2 sI blk off size w:=
 fun m os s _ x y=>(xh x y _).mono fun e w' h=>⟨h.1,by
  obtain⟨z,q⟩:=h.2;exact⟨z.drawn,z.objs,q⟩⟩
theorem Cc{fp:List Nat}{b off B:Nat}(xs:List ag)(w:World)(hu:SlR fp w (.slice (some ⟨b,off,none⟩) xs.length B) xs)(hb:b<w.heap.size)(hlen:xs.length≤1048576):
  Calls Tryz.prog 219 #[.slice (some ⟨b,off,none⟩) xs.length B,.func (.func 220) #[] #[]] w fun e w'=>e=.returned (.tuple #[])∧∃K fq,(∀o:ag,o∈K↔o∈xs)∧K.length=xs.length∧SlR fq w' (.slice (some ⟨b,off,none⟩) K.length B) K∧fq.Sublist [b]∧Wr [b] w w':=by
 have h3:=hu.open;obtain⟨a,c,O,ah,ai,-⟩:=h3;injection O with _ _ hc;subst hc
 have hH:HoldsK nJ 2 w b off xs.toArray:=by
  intro j q
  have Y:j<xs.length*2:=by simpa[size_flatK] using q
  refine⟨?_,hu.kR Y⟩;rw[get_flatK _ _ _ _ (by simpa using Y)];have T:j / 2<xs.length:=by omega
  have U:=hu.iX T;have D:xs.toArray[j / 2]! =xs[j / 2]:=by simp[T]
  rw[D];have E:j % 2=0∨j % 2=1:=by omega
  rcases E with E|E
  ·rw[E,show off+j=off+j / 2*2 by omega];exact U.1
  ·rw[E,show off+j=off+j / 2*2+1 by omega];exact U.2.1
 have Z:=AnyQ.slices_SortFunc soL 2 Tryz.isAgg132 Tryz.sizeOf132 nJ (fun _=>rfl) (fun x v O=>by simp[nJ] at O;rcases O with rfl|rfl<;>rfl) sI JJ 220 #[] b off B xs.toArray w Tryz.call220 (Em b off _ w) hH hb (by simp;omega);refine(show Calls Tryz.prog 219 _ _ _ from Z).mono ?_;rintro e w' ⟨rfl,h,n,os,hp,-,rfl⟩;refine⟨rfl,h.toList,?_⟩;have hs:h.size=xs.length:=by simpa using hp.1
 have H:=holdsK_sortWorldK_c nJ 2 w b off xs.toArray h n os hH hb (by simpa using hs)
 have s:h.toList.Perm xs:=by
  have:=hp.2.2;rw[Array.toList_extract,Array.toList_extract] at this;have D:xs.length=h.toList.length:=by simp[hs]
  simp only[List.extract_eq_take_drop,List.drop_zero,Nat.sub_zero,List.size_toArray] at this;rw[take_length,D,take_length] at this;exact this
 have X:∀(o:ag),o∈xs→(Lit.int .i64 o.1).wf=true∧o.2.size≤maxLen:=by
  intro o ho
  obtain⟨i,T,rfl⟩:=List.mem_iff_getElem.1 ho;exact(hu.iX T).2.2
 have I:∀j (q:j<h.toList.length),(sortWorldK nJ 2 w b off n h os).cell? ⟨b,off+j*2,none⟩=some (.int .i64 h.toList[j].1)∧(sortWorldK nJ 2 w b off n h os).cell? ⟨b,off+j*2+1,none⟩=some (.string h.toList[j].2)∧(Lit.int .i64 h.toList[j].1).wf=true∧h.toList[j].2.size≤maxLen:=by
  intro j q
  have J:j<h.size:=by simpa using q
  have D:h[j]! =h.toList[j]:=by simp[J]
  have c0:=H.cell (i:=j) (c:=0) J (by omega);have c1:=H.cell (i:=j) (c:=1) J (by omega);rw[D] at c0 c1;exact⟨c0.1,c1.1,X _ (s.mem_iff.1 (getElem_mem q))⟩
 obtain⟨fq,U,h6⟩:=SlR.EI (cap:=B) I (fun j q=>(H j (by simpa[size_flatK] using q)).2) (by simp;omega) (by simp;unfold bn;omega);refine⟨fq,fun o=>s.mem_iff,by simpa using hs,U,h6,?_⟩;refine⟨rfl,rfl,rfl,size_sortWorldK_c nJ 2 w b off n h os,Nat.le_add_right _ _,fun k hk hn=>?_⟩;have ae:k≠b:=by simpa using hn
 show(grow (putRowK nJ 2 (Sort.ahead w n) b off h) os).heap[k]?=_
 rw[heap_grow_old _ _ (by rw[size_putRowK];exact hk)]
 show((Sort.ahead w n).heap.modify b _)[k]?=_
 rw[Array.getElem?_modify,if_neg (fun e=>ae e.symm)];rfl
end Go.Proofs.YtdhighcpmcdmmaaGreat
