/- Contracts and laws towards ReadsOf, part 49 of 54. No condition. -/
import Derived.Test.YtdhighcpmcdmmaaGreatFx45
import Derived.Test.YtdhighcpmcdmmaaGreatFx47
set_option maxHeartbeats 32000000
set_option maxRecDepth 10000
set_option linter.unusedVariables false
set_option linter.unusedSimpArgs false
namespace Go.Proofs.YtdhighcpmcdmmaaGreat
open Go.RowKit
open _root_.Nat (le_refl le_trans)
variable{d:Nat}
variable{fg ft fV:List Nat}{cg ct:Array Value}{uV:Value}
theorem NI{fx E:List Nat}{cx:Array Value}{h:Value}(g:af d)(t:List aT)(x:av)(L:List av)(V:List Int)(v:Int)(w:World)(H:Rd.rd fg w cg.toList g)(I:Rd.rd (α:=fU) ft w ct.toList t)(J:Rd.rd fx w cx.toList x)(K:SlR E w h L)(O:SlR fV w uV V)(T:aP g≤1048576)(q:gY t≤1048576)(s:fP g t=true)(B:L=bU g t)(D:L.length=V.length)(U:F8 g t L V x=v):
  Qz 27 #[.agg cg,.agg ct,.agg cx,h,uV] w (.int .i64 v):=by
 rw[←U];exact MJ g t x L V w H I J K O T q s B D
theorem Oq{t:List aT}(h:gY t≤1048576):t.length≤1048576:=le_trans (bT fT t) h
theorem M5(g:af d)(t:List aT)(V:List Int)(w:World)(hg:Rd.rd fg w cg.toList g)(ht:Rd.rd (α:=fU) ft w ct.toList t)(hV:SlR fV w uV V)(hl:aP g≤1048576)(aS:gY t≤1048576):
  Qz 7 #[.agg cg,.agg ct,uV] w (.bool (pB (Oz g t V))):=by
 have I:=Kz hl;have aZ:=Kz aS;have bg:=Kz hV;obtain⟨aV,kV,rfl,kS,kT,fu⟩:=hV.open;clear hl aS hV;have X:=Kz hg;obtain⟨q,s,bB,bD,kX,bH,bK,kZ,rfl,rfl,-,lq,jX,j4,lG,j5,ku⟩:=yt hg;clear hg;have HT:=Kz ht;obtain⟨t0,bL,bN,lV,rfl,rfl,-,l5,ky,kz⟩:=K8 ht;clear ht;obtain⟨R,hR⟩:=nm (pB (Oz (q,s) t0 V));rw[←hR];obtain⟨L,hL⟩:=nm (bU (q,s) t0);have U:=Kz (show R=pB (Mx (q,s)∧L.length≠0∧L.length=V.length∧∀i (h:i<L.length),V.getD i 0=F8 (q,s) t0 L V L[i]) by rw[hR,hL];rfl);have fw:=Kz (show L.length≠0→fP (q,s) t0=true by rw[hL];exact Md);have cK:=Kz hL;obtain⟨C,hC⟩:=nm (pB (Mx (q,s)));have Y:=Kz hC;clear hR hL hC;delta Qz;go_in
 go_upto_region 1 with fail
 generalize hB:((w.alloc (.cells #[.slice bB q.length bD,.slice bH s.length bK] 36)).alloc (.cells #[.slice bL t0.length bN] 40))=B;have gB:Gr w B:=gb hB;obtain⟨cO,dz⟩:=kb2 hB (w.heap.size) (.slice bB q.length bD) (.slice bH s.length bK);have dA:=kb hB (w.heap.size+1) 0 (.slice bL t0.length bN);have sB:B.heap.size=w.heap.size+2:=szB hB;clear hB;have y0:=cO _ (Gr.refl _);have y1:=dz _ (Gr.refl _);have y2:=dA _ (Gr.refl _);have fA:=blk y0;have dC:=blk y2;go_wp2_with fail;refine(yM (q,s) t0 _ (Rd.gr X.o (gB.trans gd)) (Rd.gr HT.o (gB.trans gd)) I.o (Oq aZ.o)).mono ?_;rintro e w' ⟨vL,fL,rfl,hs,hf,x1,rfl⟩;rw[←cK.o] at hs;have ae:=Kz hs;obtain⟨aL,kL,rfl,-,l6,l7⟩:=hs.open;clear hs hf
 go_upto_region 2 with fail
 obtain⟨D,hD⟩:=nm (B.ext x1);rw[←hD] at ae ⊢;have gD:Gr B D:=by rw[hD];exact gd
 have E:=Kz (gB.trans gD);have ah:=Kz gD;have v0:=gD.keep y0;have v1:=gD.keep y1;have zv:=blk v0;clear hD gD y0 y1 y2 fA dC
 cases C with
 |false=>
  have O:=Kz (show R=false from U.o.trans (bz fun h=>lM Y.o.symm h.1))
  go_wp2_with (first|(go_at_call 26;refine(A7 (q,s) _ (Rd.gr X.o (tg E)) I.o).mono ?_;rintro e w' ⟨rfl,x2,rfl⟩;rw[←Y.o]))
  go_ret;exact⟨aa O.o.symm,E.o.trans gd⟩
 |true=>
  have fK:=Kz (dx.1 Y.o.symm)
  by_cases T:L.length=0
  ·have gm:((L.length:Int)==0)=true:=by simp[T]
   have O:=Kz (show R=false from U.o.trans (bz fun h=>h.2.1 T));clear T
   go_wp2_with (first|(go_at_call 26;refine(A7 (q,s) _ (Rd.gr X.o (tg E)) I.o).mono ?_;rintro e w' ⟨rfl,x2,rfl⟩;rw[←Y.o]))
   go_ret;exact⟨aa O.o.symm,E.o.trans gd⟩
  ·have gm:((L.length:Int)==0)=false:=beq_eq_false_iff_ne.2 (by omega)
   by_cases Z:L.length=V.length
   ·have gF:((L.length:Int)!=(V.length:Int))=false:=by simp[Z]
    have dG:=Kz Z;have gH:=Kz (fw.o T);have dL:=Kz (show R=pB (∀i (h:i<L.length),V.getD i 0=F8 (q,s) t0 L V L[i]) from U.o.trans (iO ⟨fun h=>h.2.2.2,fun h=>⟨fK.o,T,Z,h⟩⟩));clear T Z
    go_wp2_with (first|(go_at_call 26;refine(A7 (q,s) _ (Rd.gr X.o (tg E)) I.o).mono ?_;rintro e w' ⟨rfl,x2,rfl⟩;rw[←Y.o]))
    clear v0 v1 zv
    go_loopw [8] (fun s8 wr=>∃k:Nat,k≤L.length∧Ky (∀i (h:i<L.length),i<k→V.getD i 0=F8 (q,s) t0 L V L[i])∧Ky (Gr D wr)∧s8=.int .i64 k) (fun s8 _=>L.length - (intOf s8).toNat)
    case atStart=>exact⟨0,by omega,Kz (fun i _ h=>by omega),Kz gd,rfl⟩
    case round=>
     obtain⟨k,hk,HA,H,rfl⟩:=hrel
     rename World=>W3
     have J:=Kz (E.o.trans H.o);have y0:=cO _ (ah.o.trans H.o);have y1:=dz _ (ah.o.trans H.o);have y2:=dA _ (ah.o.trans H.o);have zy:=blk y0;have dC:=blk y2
     by_cases ai:k<L.length
     ·have aj:k<V.length:=by have:=dG.o;omega
      obtain⟨bV,oV,rfl,l8⟩:=fu k aj;have cV:=J.o.keep (bg.o.fQ aj).1;obtain⟨vv,au⟩:=nm (V[k]);rw[←au] at cV;have dU:=Kz (show V.getD k 0=vv by rw[au,List.getD_eq_getElem?_getD,List.getElem?_eq_getElem aj];rfl);have ax:=ae.o.gr H.o;obtain⟨a',c',he,o1,o2,gM⟩:=ax.open;injection he with e1 e2 e3;subst e1 e3;obtain⟨bq,kE,rfl,kQ⟩:=gM k ai;obtain⟨q0,q1,gT,ma,dW,eH,mf,mh,mo⟩:=Lh ax ai (Gr.refl _);have HQ:=Kz (And.intro dW eH);obtain⟨VL,ay⟩:=nm (F8 (q,s) t0 L V (q0,q1));have ik:=Kz ay;have aN:=Kz (show F8 (q,s) t0 L V L[k]=VL by rw[←gT.o,ay]);have k0:(0:Int)≤(k:Int):=by omega
      have k1:(k:Int)<(L.length:Int):=by omega
      have k2:(k:Int)<(V.length:Int):=by omega
      have iw:=zI1 k (by omega);have mq:=blk cV;clear ax dW eH au ay
      go_upto_region 7 with fail
      refine wg ?_
      repeat(go_big_quiet_step ((go_at_call 27;exact aG (NI (q,s) t0 (q0,q1) L V VL _ (Rd.gr X.o (tg J)) (Rd.gr HT.o (tg J)) (bZ q0 q1 HQ.o.1 HQ.o.2) (ae.o.gr (tg H)) (bg.o.gr (tg J)) I.o aZ.o gH.o cK.o dG.o ik.o.symm))))
      refine wq fun nx=>?_
      by_cases K:vv=VL
      ·have fe:(vv !=VL)=false:=by simp[K]
       have jN:=Kz K;clear K;go_wp2_with fail
       exact⟨⟨k+1,by omega,Kz (fun i hi mr=>by
        by_cases h9:i<k
        ·exact HA.o i hi h9
        ·obtain rfl:i=k:=by omega
         rw[dU.o,jN.o,aN.o]),Kz (tg H),by go_num⟩,by simp[intOf];omega⟩
      ·have fe:(vv !=VL)=true:=by simpa using K
       have O:=Kz (show R=false from dL.o.trans (bz fun h=>K (by have h9:=h k ai;rw[dU.o,aN.o] at h9;exact h9)));clear K;go_wp2_with fail;go_ret;exact⟨aa O.o.symm,J.o.trans gd⟩
     ·obtain rfl:k=L.length:=by omega
      go_wp2_with fail;go_ret;exact⟨aa (dL.o.trans (bQ fun i h=>HA.o i h h)).symm,J.o⟩
   ·have gF:((L.length:Int)!=(V.length:Int))=true:=by simp;omega
    have O:=Kz (show R=false from U.o.trans (bz fun h=>Z h.2.2.1));clear Z T
    go_wp2_with (first|(go_at_call 26;refine(A7 (q,s) _ (Rd.gr X.o (tg E)) I.o).mono ?_;rintro e w' ⟨rfl,x2,rfl⟩;rw[←Y.o]))
    go_ret;exact⟨aa O.o.symm,E.o.trans gd⟩
theorem M3{fp fo:List Nat}{u:Value}{co:Array Value}(xs:List av)(o:av)(v:Int)(w:World)(h:SlR fp w u xs)(q:Rd.rd fo w co.toList o)(s:gL xs o=v):
  Qz 78 #[u,.agg co] w (.int .i64 v):=by
 rw[←s];exact wH xs o w h q
set_option maxRecDepth 100000 in
theorem MR(g:af d)(t:List aT)(i:Nat)(V:List Int)(w:World)(hg:Rd.rd fg w cg.toList g)(ht:Rd.rd (α:=fU) ft w ct.toList t)(hV:SlR fV w uV V)(hl:aP g≤1048576)(ma:gY t≤1048576)(eH:fP g t=true)(hi:i<t.length)(bD:(bU g t).length=V.length):
  Calls Tryz.prog 105 #[.agg cg,.agg ct,.int .i64 (i:Int),uV] w (p8 w (slotsOf g t (bU g t) V (i:Int))):=by
 obtain⟨i0,aj⟩:=info_parts Tryz.Mj;have HZ:=Kz aj;clear aj;obtain⟨j0,aj⟩:=info_parts Tryz.kJ;have bH:=Kz aj;clear aj;have fe:=Kz hl;have uL:=Kz ma;have uR:=Kz eH;have mf:=Kz hV;obtain⟨aV,kV,rfl,-,-,uW⟩:=hV.open;clear hl ma hV;have HG:=Kz hg;obtain⟨q,s,mh,mo,Cg,mq,mr,Ch,rfl,rfl,-,Ci,zW,zX,bK,z8,Ab⟩:=yt hg;clear hg;have HT:=Kz ht;obtain⟨t0,Ck,mH,Cx,rfl,rfl,-,fu,Ad,sG⟩:=K8 ht;have sH:=fu.op3;clear ht;obtain⟨L,fw⟩:=nm (bU (q,s) t0);rw[←fw] at bD ⊢;have mZ:=Kz fw;have uZ:=Kz bD;have Ae:((V.length:Int)!=(L.length:Int))=false:=by simp[bD]
 have O:=hi;have fA:=Ah uL.o hi;have bg:=fun(p:Nat) (h:p≤t0[i].2.2.2.2.2.length)=>Nw eH hi h
 have fK:slotsOf (q,s) t0 L V (i:Int)=(List.range (t0[i].2.2.2.2.2.length+1)).flatMap fun p=>qb (q,s) t0 L V p (Ap i t0[i].2.2.2.2.2 p):=M6 hi
 obtain⟨b,off,rfl,bL⟩:=sH i O;obtain⟨n0,n1,n2,n3,n4,I,Cy,CF,CG,CL,ve,CQ,vo,vB,nz,vC,vD,nM,Ag,AA,vE,vF,vI,vN,vO,nO,C9⟩:=KZ fu O (Gr.refl _);rw[←ve.o] at fA bg fK;have AU:I.length≤1048576:=fA;obtain⟨vR,hsrc,-,-⟩:=eT.qL nM;have sO:=Kz hsrc;have nP:=Kz (hsrc.flat nK);obtain⟨K,cK⟩:=nm ([(i:Int)]++I);have gm:K.length=I.length+1:=by rw[cK];simp
 have bq:=Kz gm
 have sW:=Kz (show∀p (h:p<K.length),K[p]=Ap i I p from fun p h=>by
  unfold Ap;rw[List.getD_eq_getElem?_getD];have e:K=(i:Int)::I:=cK;subst e;rw[List.getElem?_eq_getElem h];rfl)
 have vU:=Kz cK;have AZ:K.length≤1048577:=by omega
 have tJ:=Kz (show∀p,p≤I.length→∃m:Nat,Ap i I p=m∧m<t0.length from bg);have uh:=Kz (show slotsOf (q,s) t0 L V (i:Int)=(List.range (I.length+1)).flatMap fun p=>qb (q,s) t0 L V p (Ap i I p) from fK);have vV:=Kz (jm (y:=(i:Int)) (by omega) (by have:=sG;omega));have nS:(0:Int)≤(i:Int):=by omega
 have vW:(i:Int)<(t0.length:Int):=by omega
 have nZ:=Kz (And.intro nS (show(i:Int)≤(t0.length:Int) - 1 by omega));clear fA bg fK vo vB nz vC vD nM eH fw bD vE vF vI vN vO hsrc cK gm;go_in
 go_upto_region 1 with fail
 generalize hB:((w.alloc (.cells #[.slice mh q.length mo,.slice mq s.length mr] 36)).alloc (.cells #[.slice (some ⟨b,off,none⟩) t0.length mH] 40))=B;have gB:Gr w B:=gb hB;obtain⟨oh,oo⟩:=kb2 hB (w.heap.size) (.slice mh q.length mo) (.slice mq s.length mr);have au:=kb hB (w.heap.size+1) 0 (.slice (some ⟨b,off,none⟩) t0.length mH);have sB:B.heap.size=w.heap.size+2:=szB hB;clear hB;have y0:=oh _ (Gr.refl _);have y1:=oo _ (Gr.refl _);have H:=au _ (Gr.refl _);have vX:=blk y0;have T:=blk H;go_wp2_with fail;refine(yB (q,s) t0 _ (Rd.gr HG.o (gB.trans gd)) (Rd.gr HT.o (gB.trans gd)) fe.o).mono ?_;rintro e w' ⟨vL,fL,rfl,cO,wm,x1,rfl⟩;rw[←mZ.o] at cO;have gD:=Kz cO;obtain⟨aL,kL,rfl,-,-,-⟩:=cO.open;clear cO wm
 go_upto_region 2 with fail
 obtain⟨D,hD⟩:=nm (B.ext x1);rw[←hD] at gD ⊢;have oq:Gr B D:=by rw[hD];exact gd
 have J:=Kz oq;have ow:D.heap.size=w.heap.size+2+x1.objs.size:=by rw[hD];simp;omega
 have hO:=bE.kF (α:=gV) (w0:=D) (w:=D) 174 (le_refl _) ow.symm;have wz:=Kz hO;clear hD hO oq y0 y1 H vX T;have gF:Gr B (D.alloc (.cells #[] 174)):=J.o.trans gd;have H:=au _ gF;have T:=blk H;have u5:=(gB.trans gF).keep nO;have oz:=blk u5;clear gF
 go_upto_region 4 with(first|(go_at_call 163;refine(gQ t0 _ _ (Rd.gr HT.o ((gB.trans J.o).trans gd)) nZ.o.1 nZ.o.2).mono ?_;rintro e w' ⟨rfl,x2,rfl⟩))
 obtain⟨W4,ax⟩:=nm ((D.alloc (.cells #[] 174)).ext x2);rw[←ax];have dz:Gr D W4:=by rw[ax];exact gd
 have wF:=Kz (show bE (α:=gV) D 174 W4 _ [] [] by rw[ax];exact wz.o.gr gd);have Dh:D.heap.size<W4.heap.size:=by rw[ax];simp<;>omega
 have wI:=Kz dz;have gH:=Kz ((gB.trans J.o).trans dz);replace H:=au _ (J.o.trans dz);replace u5:=gH.o.keep nO;replace T:=blk H;replace oz:=blk u5;clear ax dz
 go_wp2_with (first|(at_builtin;refine bP (α:=Int) (w0:=W4) gd rfl _ _ 29 rfl 3 j0 (.int .i64 0) 8 Tryz.underlying29 bH.o.1 bH.o.2.1 bH.o.2.2.1 bH.o.2.2.2 rfl _ [[]] [(i:Int)] (by rfl) (bE.Kg 3 (le_refl _) (by simp) vV.o) _ vR I (by rfl) (sO.o.gr (tg gH)) (fun b _=>by rw[nP.o];simp) (by unfold maxLen;simp;omega) (by simp;omega) ?_;intro v9 w9 k1 k2 k3 k4;rw[←vU.o] at k1;obtain⟨ra,rc,rfl⟩:=k1.form;replace k1:=Kz k1;replace k4:=Kz k4;clear k2 k3))
 obtain⟨fN,sN,oG⟩:=k1.o.fresh (by unfold bn;omega) (by simp[nP.o];exact aY.nil _);have wK:=Kz oG;obtain⟨aN,Di,eN,-,-,oH⟩:=sN.open;injection eN with wN _ wO;subst wN wO;obtain⟨bN,oN,rfl,-⟩:=oH 0 (by have:=bq.o;omega);have wP:=Kz sN;have wZ:=Kz (SlR.lt sN);have xc:=Kz (wI.o.trans k4.o);have Dl:=k4.o.size;have xg:=k4;clear k1 oG sN oH H u5 T oz k4
 go_loopw [45,10] (fun gM X wr=>∃(p:Nat) (fps:List (List Nat)),p≤K.length∧Ky (fps.flatten=[])∧Gr D wr∧Ky (SlR fN wr (.slice (some ⟨bN,oN,none⟩) K.length rc) K)∧Ky (∀b,X.ownBlock=some b→b=D.heap.size∨w9.heap.size≤b)∧w9.heap.size≤wr.heap.size∧bE (α:=gV) D 174 wr X fps ((List.range p).flatMap fun p=>qb (q,s) t0 L V p (Ap i I p))∧gM=.int .i64 p) (fun gM _ _=>K.length - (intOf gM).toNat)
 case atStart=>exact⟨0,[],by omega,Kz rfl,xc.o,wP,Kz (fun b hb=>.inl ((ownB hb).symm.trans ow.symm)),le_refl _,by simpa using wF.o.gr xg.o,rfl⟩
 case round=>
  obtain⟨p,fps,hp,HF,bK,gT,oK,A8,hown,rfl⟩:=hrel;obtain⟨M0,dA⟩:=nm ((List.range p).flatMap fun p=>qb (q,s) t0 L V p (Ap i I p));have ui:M0.length≤p*1048576:=by rw[dA];exact Mk (F:=Ap i I) fe.o p
  rw[←dA] at hown;have oL:=Kz dA;have um:=Kz ui
  rename World=>W1
  have xR:=Kz bK;have HO:=Kz hown;obtain⟨ra,rd,ae⟩:=hown.form;subst ae;have ah:=Kz (J.o.trans bK);have Z:=Kz (gB.trans ah.o);clear hown dA bK
  by_cases ik:p<K.length
  ·have xS:p≤I.length:=by have:=bq.o;omega
   obtain⟨m,hm,dC⟩:=tJ.o p xS;have cL:=(gT.o.fQ ik).1;rw[sW.o p ik,hm] at cL;have x9:=blk cL;have O:=dC;have yc:=Z.o;obtain⟨q0,q1,q2,q3,q4,q5,Dy,DD,DV,DZ,dG,D6,oW,yf,yh,ym,yo,yu,Bu,BF,o9,yL,yN,yO,yQ,yT,Ee⟩:=KZ fu O (Gr.refl _);have yX:=Kz o9;have yY:=Kz oW;clear o9 yL yN yO yQ yT yc oW yf yh ym yo yu;have p0:(0:Int)≤(p:Int):=by omega
   have p1:(p:Int)<(K.length:Int):=by omega
   have j0:(0:Int)≤(m:Int):=by omega
   have j1:(m:Int)<(t0.length:Int):=by omega
   have Ej:=zI1 p (by omega);have y0:=oh _ ah.o;have y1:=oo _ ah.o;have H:=au _ ah.o;have y5:=blk y0;have y7:=blk H;have hs:zB (q,s) t0 (m:Int)=leftOf (q,s) (q0,q1,q2,q3,q4,q5):=by unfold zB;rw[gG dC,←dG.o]
   have HS:=Kz hs;obtain⟨Y,hY⟩:=nm ((bW q (leftOf (q,s) (q0,q1,q2,q3,q4,q5))).getD dE);have uq:=Kz (show qb (q,s) t0 L V p (Ap i I p)=Y.2.map (KX L V p q0) by rw[hm,M9 dC,hY,←dG.o]);have pG:=Kz hY
   have y8:=Kz (fun(a:aQ) (ha:a∈Y.2)=>(show∃j:Nat,gL L (q0,a.1)=j∧j<L.length from by
    have h9:=NY uR.o dC (a:=a) (by rw[←dG.o,←hY];exact ha);rw[←mZ.o,←dG.o] at h9;exact h9))
   clear hs hY hm
   go_upto_region 7 with fail
   have k0:=fun(w':World) (h:Gr W1 w')=>h.keep y0
   have k1:=fun(w':World) (h:Gr W1 w')=>h.keep y1
   have k2:=fun(w':World) (h:Gr W1 w')=>h.keep H
   go_cut [13] (fun y9 wr=>mK w W1 Y y9 wr)
   case first=>
    go_region_held3 (fun w'=>Gr W1 w') (exact ga)
     (first|(go_at_call 93;refine(jM (q,s) t0 (m:Int) _ (Rd.gr HG.o (Z.o.trans ga)) (Rd.gr HT.o (Z.o.trans ga))).mono ?_;rintro e w' ⟨rfl,x2,rfl⟩;rw[HS.o])|(go_at_call 94;refine(dY (q,s) (leftOf (q,s) (q0,q1,q2,q3,q4,q5)) _ (Rd.gr HG.o (Z.o.trans ga))).mono ?_;rintro e w' ⟨es,fq,rfl,hr,pM,x3,rfl⟩;obtain⟨r0,r1,za,zb,pR,iw,rfl,ze,zf,jN,BM,BR⟩:=Lg (x:=(bW q (leftOf (q,s) (q0,q1,q2,q3,q4,q5))).getD dE) hr;have zg:=Kz iw;have En:=Lt iw hr;clear hr iw;obtain⟨bb,bL⟩:∃b:Bool,b=(bW q (leftOf (q,s) (q0,q1,q2,q3,q4,q5))).isSome:=⟨_,rfl⟩;rw[←bL];have Eo:=Kz bL;clear bL;have zi:=Kz pM;clear pM))
    all_goals
     go_wp2_with fail;go_meet;have hY:Y=(r0,r1):=pG.o.trans zg.o.symm;subst hY;have jX:∀c∈pR,c<w.heap.size∨_≤c:=fun c hc=>(zi.o c (by rw[ze.o];simpa using hc)).imp (Rd.lt HG.o c) id
     have Et:=Z.o.size;refine⟨_,.slice za r1.length zb,pR,rfl,gd,?_,?_,?_,zf,by first|omega|(simp;done)|(simp;omega),fun c hc=>(jX c hc).imp id (fun h=>by first|omega|(simp at h;omega))⟩
     ·exact kd
     ·exact kd
     ·first
       |(refine jN.gr ?_;(repeat(first|exact Gr.refl _|apply Gr.ext|apply Gr.alloc|apply Gr.drew));done)
       |((with_reducible refine jN.mono (dO ?_));exact fun c hc e=>by subst e;have:=jX _ hc;simp at this;omega)
       |((with_reducible refine jN.mono (dM ?_));exact fun c hc e=>by subst e;have:=jX _ hc;simp at this;omega)
   case rest=>
    obtain⟨b8,v8,fr,rfl,dL,d0,d1,sl,-,BU,pV⟩:=hcut
    rename World=>W6
    obtain⟨ay,ky,rfl,Ev,Ew,zl⟩:=sl.open;have z0:=blk d0;have zm:=Kz sl;have ai:=Kz dL;have EB:Y.2.length≤1048576:=by have:=fe.o;rw[pG.o];exact xn (le_trans (Nat.le_add_right _ _) this) _
    have p9:∀b,(Value.slice ra M0.length rd).ownBlock=some b→D.heap.size≤b∧b<W1.heap.size:=HO.o.base;have zn:=Kz p9;have EC:=dL.size;have ED:=(gB.trans J.o).size
    have j4:=Kz (show∀c∈fr,c∉(Value.slice ra M0.length rd).ownBlock.toList from fun c hc hm=>by
     have U:=zn.o c (by simpa using hm);rcases pV c hc with h|h<;>omega)
    have qo:=Kz (show∀c∈fN,c∉(Value.slice ra M0.length rd).ownBlock.toList from fun c hc hm=>by
     have U:=oK.o c (by simpa using hm);have h2:=wK.o.2 c hc;have h3:=wZ.o c hc;omega)
    obtain⟨O0,j5⟩:=nm ((Value.slice ra M0.length rd).ownBlock);rw[←j5] at j4 qo;have qD:=Kz j5;have uw:=Kz (gT.o.gr dL);clear k0 k1 k2 sl dL p9 pV j5 y0 y1 H y5 y7 cL x9;go_wp2_with fail
    go_loopw [62,10] (fun ku X wr=>∃(j:Nat) (fps:List (List Nat)),j≤Y.2.length∧Ky (fps.flatten=[])∧Gr D wr∧Wr O0.toList W6 wr∧Ky (X.ownBlock=O0∨∃n,X.ownBlock=some n∧W6.heap.size≤n)∧bE (α:=gV) D 174 wr X fps (M0++(Y.2.take j).map (KX L V p q0))∧ku=.int .i64 j) (fun ku _ _=>Y.2.length - (intOf ku).toNat)
    case atStart=>exact⟨0,fps,by omega,HF,xR.o.trans ai.o,Wr.refl _ _,Kz (.inl qD.o.symm),by simpa using HO.o.gr ai.o,rfl⟩
    case round=>
     obtain⟨j,fps,hj,HF,hg,kz,HV,hown,rfl⟩:=hrel
     rename World=>W7
     have kE:=Kz hg;have kQ:=Kz kz;obtain⟨M,hM⟩:=nm (M0++(Y.2.take j).map (KX L V p q0));have EE:M.length≤p*1048576+1048576:=by rw[hM,List.length_append,List.length_map,List.length_take];have:=um.o;omega
     rw[←hM] at hown;have qG:=Kz hown;obtain⟨ra,rd,ae⟩:=hown.form;have HM:=Kz hM;have zo:=Kz (zm.o.wr kz j4.o);have kS:=Kz (J.o.trans hg);have bB:=Kz (gB.trans kS.o);clear hg kz hown hM;subst ae
     by_cases kT:j<Y.2.length
     ·have O:=kT
      have qN:=zo.o;obtain⟨ba,BX,rfl,Cf⟩:=zl j O;obtain⟨a0,a1,a2,a3,qR,EH,qV,zt,zu,zx,zy,zz,zA,zC⟩:=K5 qN O (Gr.refl _);have kX:=Kz (And.intro yY.o qV);obtain⟨jx,kZ,EK⟩:=y8.o (a0,a1,a2,a3) (by rw[qR.o];exact List.getElem_mem kT);have zF:=Kz (show gL L (q0,a0)=(jx:Int) from kZ);have dU:jx<V.length:=by have:=uZ.o;omega
      obtain⟨bV,oV,rfl,EL⟩:=uW jx dU;have lq:=(mf.o.fQ dU).1;have qX:=Kz (mf.o.fQ dU).2;obtain⟨vv,lG⟩:=nm (V[jx]);rw[←lG] at lq qX
      have zH:=Kz (show KX L V p q0 (a0,a1,a2,a3)=(((p:Int),a0),vv) by
       unfold KX;rw[show gL L (q0,(a0,a1,a2,a3).1)=(jx:Int) from kZ,Int.toNat_natCast,lG,List.getD_eq_getElem?_getD,List.getElem?_eq_getElem dU];rfl)
      have nS:(0:Int)≤(j:Int):=by omega
      have vW:(j:Int)<(Y.2.length:Int):=by omega
      have EN:(0:Int)≤(jx:Int):=by omega
      have ER:(jx:Int)<(V.length:Int):=by omega
      have EY:((jx:Int)≥0):=by omega
      have EZ:=zI1 j (by omega);clear qN qV zt zu kZ lG
      go_upto_region 12 with fail
      obtain⟨E,hE⟩:=nm (W7.alloc (.cells #[.string a0,.int .i64 a1,.int .i64 a2,.bool a3] 81));rw[←hE];have dW:Gr W7 E:=by rw[hE];exact gd
      have e0:E.cell? ⟨W7.heap.size,0,none⟩=some (.string a0):=by rw[hE];exact aJ rfl rfl
      have rf:=Kz dW;have H:=au _ (kS.o.trans dW);have qE:=(bB.o.trans dW).keep (show w.cell? _=some _ from yX.o);have T:=blk H;have rq:=blk e0;have rD:=blk qE;clear hE dW zx zy zz zA zC
      go_upto_region 13 with(first|(go_at_call 163;refine(gQ t0 _ _ (Rd.gr HT.o ((bB.o.trans rf.o).trans gd)) (by omega) (by omega)).mono ?_;rintro e w' ⟨rfl,x2,rfl⟩))
      obtain⟨F1,lV⟩:=nm (E.ext x2);rw[←lV];have aS:Gr E F1:=by rw[lV];exact gd
      have l5:=Kz (rf.o.trans aS);replace H:=aS.keep H;replace e0:=aS.keep e0;replace qE:=aS.keep qE;replace T:=blk H;replace rq:=blk e0;replace rD:=blk qE;clear lV aS;refine wg ?_
      repeat(go_big_quiet_step ((go_at_call 78;exact aG (M3 L (q0,a0) (jx:Int) _ (gD.o.gr ((kE.o.trans l5.o).trans gd)) (bZ q0 a0 kX.o.1 kX.o.2) zF.o))))
      refine wq fun nx=>?_
      obtain⟨W8,l6⟩:=nm (F1.ext nx);rw[←l6];have l7:Gr F1 W8:=by rw[l6];exact gd
      have aZ:=l5.o.trans l7;have rE:=Kz (kE.o.trans aZ);have l8:=Kz (kQ.o.gr aZ);have zL:=Kz (qG.o.gr aZ);have cV:=(bB.o.trans aZ).keep lq;have E5:=blk cV;replace e0:=l7.keep e0;replace rq:=blk e0;clear l6 l7 aZ H qE T rD lq
      go_wp2_with (first|(at_builtin;refine eU (α:=gV) (wg:=D) (w0:=D) (tg rE) (le_refl _) (tg rE).size rfl _ _ 121 rfl 174 i0 _ _ Tryz.underlying121 HZ.o.1 HZ.o.2.1 HZ.o.2.2.1 HZ.o.2.2.2 rfl _ fps M (by rfl) (zL.o.gr gd) _ [[]] [(((p:Int),a0),vv)] (by rfl) (eT.one (by simp) (Mo (p:Int) a0 vv (jm (by omega) (by omega)) kX.o.2 qX.o)) (fun b _=>by simp) (by unfold maxLen;simp;omega) (by simp;omega) ?_;intro v3 w3 U h2 h3 h4;have K1:=Kz U;have K4:=Kz h4;have K2:=Kz ((show Gr W8 _ from gd).eF _ |>.trans h2);have K3:=Kz h3;clear U h2 h3 h4))
      have rR:Wr (Value.slice ra M.length rd).ownBlock.toList W8 w3:=K2.o;have rT:v3.ownBlock=(Value.slice ra M.length rd).ownBlock∨_:=K3.o;have zO:=Kz rR;have zS:=Kz rT;clear rR rT;refine⟨⟨j+1,fps++[[]],by omega,Kz (by rw[List.flatten_append,HF.o];rfl),K4.o,l8.o.more HV.o zO.o,Kz (tq HV.o zS.o (le_trans l8.o.size (by simp<;>omega))),?_,by go_num⟩,by simp[intOf];omega⟩
      have e:M0++(Y.2.take (j+1)).map (KX L V p q0)=M++[(((p:Int),a0),vv)]:=by
       rw[List.take_succ_eq_append_getElem kT,List.map_append,←List.append_assoc,←HM.o,←qR.o,List.map_cons,List.map_nil,zH.o]
      have U:=K1.o;rw[e];exact U
     ·have zV:j=Y.2.length:=by omega
      subst zV;go_wp2_with fail;refine⟨⟨p+1,fps,by omega,HF,kE.o.trans gd,Kz ((uw.o.wr kQ.o qo.o).gr gd),Kz (fun b hb=>?_),?_,?_,by go_num⟩,by simp[intOf];omega⟩
      ·rcases HV.o with e|⟨n,e,nz⟩
       ·rw[e,qD.o] at hb
        exact oK.o b hb
       ·rw[e] at hb
        obtain rfl:=Option.some.inj hb;have:=ai.o.size;exact .inr (by omega)
      ·have U:=ai.o.size
       have h2:=kQ.o.size
       first|omega|(simp;omega)
      ·have e:((List.range (p+1)).flatMap fun p=>qb (q,s) t0 L V p (Ap i I p))=M:=by
        rw[List.range_succ,List.flatMap_append,←oL.o,List.flatMap_singleton,uq.o,HM.o,List.take_length]
       rw[e];exact qG.o.gr gd
  ·have sw:p=K.length:=by omega
   obtain⟨fq,U,h2⟩:=HO.o.fresh (by unfold bn;omega) (by rw[HF.o];exact aY.nil _);have H1:=Kz (show SlR fq W1 (.slice ra M0.length rd) (slotsOf (q,s) t0 L V (i:Int)) by rw[uh.o,←bq.o,←sw,←oL.o];exact U);have H2:=Kz (h2.of_le (gB.trans J.o).size);clear U h2;subst sw;go_wp2_with fail;go_ret;exact⟨_,fq,rfl,H1.o,H2.o,Z.o⟩
end Go.Proofs.YtdhighcpmcdmmaaGreat
