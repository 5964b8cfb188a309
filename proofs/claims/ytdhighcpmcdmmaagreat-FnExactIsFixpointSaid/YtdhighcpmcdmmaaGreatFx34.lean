/- Contracts and laws towards ReadsOf, part 34 of 54. No condition. -/
import Derived.Test.YtdhighcpmcdmmaaGreatFx23
set_option maxHeartbeats 32000000
set_option maxRecDepth 10000
set_option linter.unusedVariables false
set_option linter.unusedSimpArgs false
namespace Go.Proofs.YtdhighcpmcdmmaaGreat
open Go.RowKit
variable{d:Nat}
set_option maxRecDepth 100000 in
theorem CZ{fg:List Nat}{cg:Array Value}(g:(af d)){ft:List Nat}{ct:Array Value}(t:fU){fx:List Nat}{cx:Array Value}(x:av)(w:World)(hg:Rd.rd fg w cg.toList g)(ht:Rd.rd ft w ct.toList t)(hx:Rd.rd fx w cx.toList x)(hl:aP g≤1048576):
  Calls Tryz.prog 103 #[.agg cg,.agg ct,.agg cx] w (Found [] w (dS g t x) qW):=by
 have oN:=Kz hl;clear hl;have HG:=Kz hg;obtain⟨H,D,bK,bL,y8,bN,bV,y9,rfl,rfl,-,za,xg,xR,zb,xS,x9⟩:=yt hg;clear hg;have HT:=Kz ht;obtain⟨t0,cK,cO,ze,rfl,rfl,-,fu,yc,oz⟩:=K8 ht;have fw:=fu.op3;clear ht;have HX:=Kz hx;obtain⟨J,q,rfl,rfl,-,zf,oV⟩:=K7 hx;clear hx;have oW:=Kz oV;go_in;go_wp2_with fail;refine(rJ (H,D) t0 (J,q) _ (Rd.gr HG.o gd) (Rd.gr HT.o gd) (Rd.gr HX.o gd)).mono ?_;rintro e w' ⟨es,fq,rfl,hr,-,z1,rfl⟩;obtain⟨r0,r1,r2,r3,fA,rfl,-,zg,zi,zl⟩:=Ld (x:=(ed (H,D) t0 (J,q)).getD dR) hr;have o9:=Kz fA;have zm:=Lt fA hr;clear hr fA;obtain⟨bb,aV⟩:∃b:Bool,b=(ed (H,D) t0 (J,q)).isSome:=⟨_,rfl⟩;rw[←aV];have kT:=Kz aV;clear aV;generalize hB:((((w.alloc (.cells #[.slice bK H.length bL,.slice bN D.length bV] 36)).alloc (.cells #[.slice cK t0.length cO] 40)).alloc (.cells #[.int .i64 J,.string q] 63)).alloc (.cells #[.int .i64 0,.int .i64 0,.int .i64 0,.int .i64 0,.int .i64 0,.string ⟨#[]⟩,.string ⟨#[]⟩,.slice none 0 0] 117)).ext z1=B;have gB:Gr w B:=gb hB;obtain⟨pG,pM⟩:=kb2 hB (w.heap.size) (.slice bK H.length bL) (.slice bN D.length bV);have kV:=kb hB (w.heap.size+1) 0 (.slice cK t0.length cO);obtain⟨kX,pR⟩:=kb2 hB (w.heap.size+1+1) (.int .i64 J) (.string q);obtain⟨kZ,zn⟩:=kb2 hB (w.heap.size+2) (.int .i64 J) (.string q);have sB:B.heap.size=w.heap.size+4+z1.objs.size:=szB hB;have EB:=Kz hB;clear hB;have fK:Ky (az B (w.heap.size+1+1+1) 117 [.int .i64 0,.int .i64 0,.int .i64 0,.int .i64 0,.int .i64 0,.string ⟨#[]⟩,.string ⟨#[]⟩,.slice none 0 0]):=Kz (az.gr (w:=(((w.alloc (.cells #[.slice bK H.length bL,.slice bN D.length bV] 36)).alloc (.cells #[.slice cK t0.length cO] 40)).alloc (.cells #[.int .i64 J,.string q] 63)).alloc (.cells #[.int .i64 0,.int .i64 0,.int .i64 0,.int .i64 0,.int .i64 0,.string ⟨#[]⟩,.string ⟨#[]⟩,.slice none 0 0] 117)) (by unfold az;simpa using heap_alloc_new (((w.alloc (.cells #[.slice bK H.length bL,.slice bN D.length bV] 36)).alloc (.cells #[.slice cK t0.length cO] 40)).alloc (.cells #[.int .i64 J,.string q] 63)) (.cells #[.int .i64 0,.int .i64 0,.int .i64 0,.int .i64 0,.int .i64 0,.string ⟨#[]⟩,.string ⟨#[]⟩,.slice none 0 0] 117)) (by rw[←EB.o];exact gd));clear sB;have E:=Kz gB
 cases bb with
 |false=>
  have K:dS (H,D) t0 (J,q)=none:=wG (iK kT.o.symm);obtain rfl:=EB.o;have T:=Kz K;clear K;go_wp2_with fail
  exact bodyPost_ret (v:=.tuple #[.agg #[.int .i64 0,.int .i64 0,.int .i64 0,.int .i64 0,.int .i64 0,.string ⟨#[]⟩,.string ⟨#[]⟩,.slice none 0 0],.bool false])
   (by simp[results,Tryz.results103,go_sem]) rfl ⟨_,_,by rw[T.o];rfl,by rw[T.o];exact ja _,by simp,(E.o).trans gd⟩
 |true=>
  have aZ:ed (H,D) t0 (J,q)=some (r0,r1,r2,r3):=jw kT.o.symm o9.o.symm
  by_cases gm:r2=3
  ·have K:dS (H,D) t0 (J,q)=none:=wV aZ gm
   subst gm;clear aZ;obtain rfl:=EB.o;have T:=Kz K;clear K;go_wp2_with fail
   exact bodyPost_ret (v:=.tuple #[.agg #[.int .i64 0,.int .i64 0,.int .i64 0,.int .i64 0,.int .i64 0,.string ⟨#[]⟩,.string ⟨#[]⟩,.slice none 0 0],.bool false])
    (by simp[results,Tryz.results103,go_sem]) rfl ⟨_,_,by rw[T.o];rfl,by rw[T.o];exact ja _,by simp,(E.o).trans gd⟩
  ·obtain⟨n,hn,lq⟩:=Fe aZ
   have HN:=Kz hn;have lG:=Kz aZ;clear hn aZ;go_wp2_with fail;generalize hC:B.alloc (.cells #[.string r0,.int .i64 r1,.int .i64 r2,.bool r3] 81)=C;have ax:Gr B C:=gb hC;have gD:C.cell? ⟨B.heap.size,2,none⟩=some (.int .i64 r2):=by rw[←hC];exact kd
   clear hC;have pV:=Kz (gB.trans ax);have k0:=fun(w':World) (h:Gr C w')=>kV _ (ax.trans h)
   have k1:=fun(w':World) (h:Gr C w')=>kX _ (ax.trans h)
   have k2:=fun(w':World) (h:Gr C w')=>pR _ (ax.trans h)
   have k3:=fun(w':World) (h:Gr C w')=>kZ _ (ax.trans h)
   go_cut [10,11] (fun bg p9 wr=>Jq C 132 (n:Int) 0 q bg p9 wr)
   case first=>
    go_region_held3 (fun w'=>Gr C w') (exact ga)
     (first|(go_at_call 108;refine(ji t0 J _ (Rd.gr HT.o (pV.o.trans ga))).mono ?_;rintro e w' ⟨rfl,x2,rfl⟩;rw[HN.o]))
    all_goals
     go_wp2_with fail;go_meet;refine⟨_,_,rfl,Kz rfl,rfl,by first|omega|(simp;done)|(simp;omega),gd,?_⟩;exact kv
   case rest=>
    obtain⟨O,bq,rfl,dz,rfl,gH,dA,vO⟩:=hcut;obtain⟨aL,aN⟩:=vO.c2;have dC:=Kz vO;clear vO
    rename World=>W6
    have gM:=dA.keep gD;have gT:=ax.trans dA;have oG:=Kz dA;clear k0 k1 k2 k3 dA
    go_upto_if 39 with fail
    go_cut [10] (fun bg wr=>∃O PZ,bg=.int .i64 O∧Ky (dS (H,D) t0 (J,q)=KL (H,D) t0 O PZ q)∧Ky ((Lit.int .i64 PZ).wf=true)∧Ky (Gr B wr)∧Ky (az wr bq 132 [.int .i64 PZ,.string q]))
    case first=>
     by_cases lV:r2=1
     ·subst lV
      have aS:=lq;have dG:=gB.trans gT;obtain⟨b,off,rfl,aV⟩:=fw n aS;obtain⟨q0,q1,q2,q3,q4,q5,zo,zt,zu,zx,qo,zy,qD,qE,l5,qG,qN,qR,yf,yh,qV,qX,rf,rq,rD,rE,zz⟩:=KZ fu aS dG;have j0:(0:Int)≤(n:Int):=by omega
      have j1:(n:Int)<(t0.length:Int):=by omega
      have rR:O=n:=dz.o;subst rR;have rT:=dC.o.frozen 0;go_wp2_with fail;have sw:=Kz ax
      go_cut [10] (fun bg wr=>Jq C 132 q1 q2 q bg (.pointer (some ⟨bq,0,none⟩)) wr)
      case first=>
       go_region
       all_goals
        go_wp2_with fail;go_meet;refine⟨_,_,rfl,Kz rfl,rfl,gH,(Gr.setCell (p:=⟨bq,0,none⟩) oG.o gH (.int .i64 q2)).drew,?_⟩;exact az.gr (dC.o.set 0 (.int .i64 q2)) (Gr.drew (Gr.refl _))
      case rest=>
       obtain⟨O,b',rfl,dz,sG,xc,l6,vO⟩:=hcut
       rename World=>W7
       obtain rfl:bq=b':=by simpa using sG
       have au:dS (H,D) t0 (J,q)=KL (H,D) t0 O q2 q:=by
        have h1:=zw lG.o rfl HN.o lq;rw[←qo.o] at h1;rw[dz.o];exact h1
       have bB:=Kz l5;clear qV qX rf rq rD rE rT aL aN gD gM gT j0 j1 dC;obtain⟨aL,aN⟩:=vO.c2;have gT:=sw.o.trans l6;have oH:=Kz vO;clear qD qE l5 qG qN qR vO l6;go_wp2_with fail;go_meet;exact⟨O,q2,rfl,Kz au,bB,Kz (gT.trans gd),Kz ((show az _ bq 132 [.int .i64 q2,.string q] from oH.o).gr gd)⟩
     ·have au:dS (H,D) t0 (J,q)=KL (H,D) t0 O 0 q:=by rw[dz.o];exact(zQ lG.o gm lV).trans (by rw[HN.o])
      have bB:=Kz (show(Lit.int .i64 0).wf=true by decide);go_wp2_with fail;go_meet;exact⟨O,0,rfl,Kz au,bB,Kz (gT.trans gd),Kz (dC.o.gr gd)⟩
    case rest=>
     clear aL aN gD gM gT;obtain⟨O,PZ,rfl,sH,bB,sN,sO⟩:=hcut
     rename World=>W7
     have au:=sH.o;have gT:=sN.o;obtain⟨aL,aN⟩:=sO.o.c2;have E:=Kz (gB.trans gT);have y0:=pG _ gT;have y1:=pM _ gT;have y2:=kV _ gT;have y3:=kX _ gT;have y5:=kZ _ gT
     by_cases ik:0≤O∧O≤(t0.length:Int) - 1
     ·obtain⟨m,rfl⟩:∃m:Nat,O=m:=⟨O.toNat,by omega⟩
      have aS:m<t0.length:=by omega
      have l7:=Kz au;have l8:=Kz ik;clear au ik;have dG:=E.o;obtain⟨b,off,rfl,aV⟩:=fw m aS;obtain⟨p0,p1,p2,p3,p4,p5,zA,zC,zF,zH,sW,zL,zO,zS,zV,zW,zX,z8,ym,yo,tJ,uh,ui,um,ma,uw,Ab⟩:=KZ fu aS dG;have j0:(0:Int)≤(m:Int):=by omega
      have j1:(m:Int)<(t0.length:Int):=by omega
      obtain⟨Y,hY⟩:=nm ((dJ D p4).getD fH);have mf:=oF (g:=(H,D)) (p:=PZ) (n:=q) (y:=Y) aS (by rw[←sW.o];exact hY);have mh:bF Y≤1048576:=by rw[hY];exact wh oN.o p4
      have mo:=Kz mf;have uL:=Kz mh;have uR:=Kz hY;clear hY mf mh dG;go_wp2_with fail;refine(gQ t0 (m:Int) _ (Rd.gr HT.o (tg E)) l8.o.1 l8.o.2).mono ?_;rintro e W8 ⟨rfl,g8⟩;go_wp2_with fail;have u0:=g8.keep y0;have u1:=g8.keep y1;have u2:=g8.keep y2;have u3:=g8.keep y3;have mq:=g8.keep aL;have mr:=g8.keep aN;have uq:=g8.keep ma;have mH:=Kz (E.o.trans g8);have uW:=Kz (gT.trans g8);have Ad:=blk u3;have uZ:=fun(w':World) (h:Gr W8 w')=>(⟨h.keep u0,h.keep u1,h.keep u2,h.keep uq⟩:_∧_∧_∧_)
      clear y0 y1 y2 y3 y5 aL aN tJ uh ui um ma uw g8
      go_cut [12] (fun s wr=>EP W8 Y s wr)
      case first=>
       go_region_held3 (fun w'=>Gr W8 w') (exact ga)
        (first|(go_at_call 164;refine(iL (H,D) p4 _ (Rd.gr HG.o (mH.o.trans ga))).mono ?_;rintro e w' ⟨es,fq,rfl,hr,dL,x2,rfl⟩;obtain⟨s0,s1,s2,s3,s4,s5,ve,vo,vv,vB,vC,vD,vE,vI,vL,iw,rfl,-,mZ,nz,nM,yu,yL,nO,yN,yO,nP,yQ,yT⟩:=KV (x:=(dJ D p4).getD fH) hr;have vN:=Kz iw;have dU:=Lt iw hr;clear hr iw;obtain⟨b2,jN⟩:∃b:Bool,b=(dJ D p4).isSome:=⟨_,rfl⟩;rw[←jN];have Ae:=Kz jN;clear jN))
       all_goals
        go_wp2_with fail;go_meet;have hY:Y=(s0,s1,s2,s3,s4,s5):=uR.o.trans vN.o.symm;subst hY;have jX:∀c∈fq,c<w.heap.size∨_≤c:=fun c hc=>(dL c hc).imp (Rd.lt HG.o c) id
        refine⟨_,[.string s0,.string s1,.slice ve s2.length vo,.bool s3,.slice vB s4.length vC,.slice vE s5.length vI],fq,rfl,gd,fun j u hj=>?_,?_,by first|omega|(simp;done)|(simp;omega)⟩
        ·match j,hj with
         |0,hj=>obtain rfl:=Option.some.inj hj;exact kd
         |1,hj=>obtain rfl:=Option.some.inj hj;exact kd
         |2,hj=>obtain rfl:=Option.some.inj hj;exact kd
         |3,hj=>obtain rfl:=Option.some.inj hj;exact kd
         |4,hj=>obtain rfl:=Option.some.inj hj;exact kd
         |5,hj=>obtain rfl:=Option.some.inj hj;exact kd
        ·first
          |(refine Rd.gr dU.o ?_;(repeat(first|exact Gr.refl _|apply Gr.ext|apply Gr.alloc|apply Gr.drew));done)
          |((with_reducible refine Rd.mono (dO ?_) dU.o);exact fun c hc e=>by subst e;have:=jX _ hc;simp at this;omega)
          |((with_reducible refine Rd.mono (dM ?_) dU.o);exact fun c hc e=>by subst e;have:=jX _ hc;simp at this;omega)
          |((with_reducible refine Rd.mono (iT ?_) dU.o);exact fun c hc e=>by subst e;have:=jX _ hc;simp at this;omega)
      case rest=>
       obtain⟨Ag,oK,f12,rfl,g9,ay,j4,yX⟩:=hcut
       rename World=>W9
       obtain⟨s0,s1,s2,s3,s4,s5⟩:=Y;obtain⟨AA,vv,AU,vD,AZ,vL,nS,-,mZ,nz,nM,nO,nP⟩:=aM (cs:=oK.toArray) s0 s1 s2 s3 s4 s5 (by simpa using j4);obtain rfl:=toL nS;have vU:=Kz j4;have c0:=ay 0 _ rfl;have c1:=ay 1 _ rfl;have c2:=ay 2 _ rfl;have c3:=ay 3 _ rfl;have c4:=ay 4 _ rfl;have c5:=ay 5 _ rfl;have A8:=blk c0;have Bu:=g9.keep mq;have BF:=g9.keep mr;have j5:=Kz (mH.o.trans g9);have nZ:=Kz (uW.o.trans g9);have vV:=Kz (az.gr fK.o nZ.o).lt;clear ay j4 nS uZ u0 u1 u2 u3 mq mr uq g9 mZ nz nM nO nP;go_wp2_with fail;refine(Ma (s0,s1,s2,s3,s4,s5) (PZ,q) _ (Rd.gr vU.o gd) (bO PZ q bB.o oW.o) uL.o).mono ?_;rintro e dW ⟨es,fq,rfl,hr,dL,ku⟩;obtain⟨e0,e1,e2,e3,e4,e5,e6,bD,bH,BM,ky,rfl,oh,vW,vX,wm,wz,wI,wK,oo,yY,y7⟩:=KU (x:=(il s4 (PZ,q)).getD ng) hr;have wN:=Kz ky;have BR:=Lt ky hr;clear hr ky;obtain⟨b3,kz⟩:∃b:Bool,b=(il s4 (PZ,q)).isSome:=⟨_,rfl⟩;rw[←kz];have oq:=Kz kz;clear kz;have kE:=Kz (j5.o.trans ku);have oL:=Kz (nZ.o.trans ku);have vR:=az.gr fK.o (oL.o);obtain⟨I,U,X,Z,ae,ah,ai,aj⟩:=vR.c8;have eH:=vR.frozen;have wO:=blk I;have fe:=Kz vR;clear vR;clear ku
       cases b3 with
       |false=>
        have K:dS (H,D) t0 (J,q)=none:=by rw[l7.o,mo.o,iK oq.o.symm];rfl
        have E:=kE;have T:=Kz K;clear K;go_wp2_with fail;clear I U X Z ae ah ai aj eH;generalize hF:(((((((((dW.setCell ⟨w.heap.size+1+1+1,0,none⟩ (.int .i64 0)).setCell ⟨w.heap.size+1+1+1,1,none⟩ (.int .i64 0)).setCell ⟨w.heap.size+1+1+1,2,none⟩ (.int .i64 0)).setCell ⟨w.heap.size+1+1+1,3,none⟩ (.int .i64 0)).setCell ⟨w.heap.size+1+1+1,4,none⟩ (.int .i64 0)).setCell ⟨w.heap.size+1+1+1,5,none⟩ (.string ⟨#[]⟩)).setCell ⟨w.heap.size+1+1+1,6,none⟩ (.string ⟨#[]⟩)).setCell ⟨w.heap.size+1+1+1,7,none⟩ (.slice none 0 0)).alloc (.cells #[.int .i64 e0,.int .i64 e1,.int .i64 e2,.int .i64 e3,.string e4,.string e5,.slice bD e6.length bH] 115))=WF;have vF:az WF (w.heap.size+1+1+1) 117 [.int .i64 0,.int .i64 0,.int .i64 0,.int .i64 0,.int .i64 0,.string ⟨#[]⟩,.string ⟨#[]⟩,.slice none 0 0]:=by rw[←hF];exact(az.ic fe.o _ _ _ _ _ _ _ _).gr (Gr.alloc (Gr.refl _) _)
        have wF:Wr [w.heap.size+1+1+1] dW WF:=by rw[←hF];exact(Wr.ic _ _ _ _ _ _ _ _ _ _).gr (Gr.alloc (Gr.refl _) _)
        have gF:Gr w WF:=by rw[←hF];exact(Gr.ic E.o (by omega) _ _ _ _ _ _ _ _).trans (Gr.alloc (Gr.refl _) _)
        obtain⟨I,U,X,Z,ae,ah,ai,aj⟩:=vF.c8;clear hF vF
        exact bodyPost_ret (v:=.tuple #[.agg #[.int .i64 0,.int .i64 0,.int .i64 0,.int .i64 0,.int .i64 0,.string ⟨#[]⟩,.string ⟨#[]⟩,.slice none 0 0],.bool false])
         (by simp[results,Tryz.results103,go_sem,I,U,X,Z,ae,ah,ai,aj]) rfl ⟨_,_,by rw[T.o];rfl,by rw[T.o];exact ja _,by simp,gF⟩
       |true=>
        have kL:dS (H,D) t0 (J,q)=some ((m:Int),(e0,e1,e2,e3,e4,e5,e6)):=by rw[l7.o,mo.o,jw oq.o.symm wN.o.symm];rfl
        have kQ:=Kz kL;have HM:=Kz (jm (y:=(m:Int)) (by omega) (by have:=oz;omega));have ow:=Kz dL;clear kL dL;have E:=kE;have wP:=Kz oo;clear oo;go_wp2_with fail;clear I U X Z ae ah ai aj eH;generalize hF:(((((((((dW.setCell ⟨w.heap.size+1+1+1,0,none⟩ (.int .i64 m)).setCell ⟨w.heap.size+1+1+1,1,none⟩ (.int .i64 e0)).setCell ⟨w.heap.size+1+1+1,2,none⟩ (.int .i64 e1)).setCell ⟨w.heap.size+1+1+1,3,none⟩ (.int .i64 e2)).setCell ⟨w.heap.size+1+1+1,4,none⟩ (.int .i64 e3)).setCell ⟨w.heap.size+1+1+1,5,none⟩ (.string e4)).setCell ⟨w.heap.size+1+1+1,6,none⟩ (.string e5)).setCell ⟨w.heap.size+1+1+1,7,none⟩ (.slice bD e6.length bH)).alloc (.cells #[.int .i64 e0,.int .i64 e1,.int .i64 e2,.int .i64 e3,.string e4,.string e5,.slice bD e6.length bH] 115))=WF;have vF:az WF (w.heap.size+1+1+1) 117 [.int .i64 m,.int .i64 e0,.int .i64 e1,.int .i64 e2,.int .i64 e3,.string e4,.string e5,.slice bD e6.length bH]:=by rw[←hF];exact(az.ic fe.o _ _ _ _ _ _ _ _).gr (Gr.alloc (Gr.refl _) _)
        have wF:Wr [w.heap.size+1+1+1] dW WF:=by rw[←hF];exact(Wr.ic _ _ _ _ _ _ _ _ _ _).gr (Gr.alloc (Gr.refl _) _)
        have gF:Gr w WF:=by rw[←hF];exact(Gr.ic E.o (by omega) _ _ _ _ _ _ _ _).trans (Gr.alloc (Gr.refl _) _)
        obtain⟨I,U,X,Z,ae,ah,ai,aj⟩:=vF.c8;clear hF vF;have wZ:=(wP.o.wr wF (fun c hc hm=>by have:=(ow.o c (by rw[oh.o];simpa using hc)).resolve_left (by simp);have:=j5.o.size;have:=vV.o;simp at hm;omega))
        exact bodyPost_ret (v:=.tuple #[.agg #[.int .i64 m,.int .i64 e0,.int .i64 e1,.int .i64 e2,.int .i64 e3,.string e4,.string e5,.slice bD e6.length bH],.bool true])
         (by simp[results,Tryz.results103,go_sem,I,U,X,Z,ae,ah,ai,aj]) rfl ⟨_,_,by rw[kQ.o];rfl,by rw[kQ.o];exact iZ (m:Int) e0 e1 e2 e3 e4 e5 e6 HM.o vW vX wm wz wI wK wZ,fun c hc=>.inr (by have:=(ow.o c (by rw[oh.o];simpa using hc)).resolve_left (by simp);have:=j5.o.size;omega),gF⟩
     ·have kS:O<0∨(t0.length:Int) - 1<O:=by omega
      have K:dS (H,D) t0 (J,q)=none:=by rw[au,mQ kS]
      have w9:=Kz kS;clear au kS ik;go_wp2_with fail;refine(lH t0 O _ (Rd.gr HT.o (tg E)) w9.o).mono ?_;rintro e W8 ⟨rfl,g8⟩;have E:=Kz (E.o.trans g8);have vR:=az.gr fK.o (gT.trans g8);obtain⟨I,U,X,Z,ae,ah,ai,aj⟩:=vR.c8;have eH:=vR.frozen;have wO:=blk I;have fe:=Kz vR;clear vR;clear g8;have T:=Kz K;clear K;go_wp2_with fail;clear I U X Z ae ah ai aj eH;generalize hF:((((((((W8.setCell ⟨w.heap.size+1+1+1,0,none⟩ (.int .i64 0)).setCell ⟨w.heap.size+1+1+1,1,none⟩ (.int .i64 0)).setCell ⟨w.heap.size+1+1+1,2,none⟩ (.int .i64 0)).setCell ⟨w.heap.size+1+1+1,3,none⟩ (.int .i64 0)).setCell ⟨w.heap.size+1+1+1,4,none⟩ (.int .i64 0)).setCell ⟨w.heap.size+1+1+1,5,none⟩ (.string ⟨#[]⟩)).setCell ⟨w.heap.size+1+1+1,6,none⟩ (.string ⟨#[]⟩)).setCell ⟨w.heap.size+1+1+1,7,none⟩ (.slice none 0 0))=WF;have vF:az WF (w.heap.size+1+1+1) 117 [.int .i64 0,.int .i64 0,.int .i64 0,.int .i64 0,.int .i64 0,.string ⟨#[]⟩,.string ⟨#[]⟩,.slice none 0 0]:=by rw[←hF];exact(az.ic fe.o _ _ _ _ _ _ _ _).gr (Gr.refl _)
      have wF:Wr [w.heap.size+1+1+1] W8 WF:=by rw[←hF];exact(Wr.ic _ _ _ _ _ _ _ _ _ _).gr (Gr.refl _)
      have gF:Gr w WF:=by rw[←hF];exact(Gr.ic E.o (by omega) _ _ _ _ _ _ _ _).trans (Gr.refl _)
      obtain⟨I,U,X,Z,ae,ah,ai,aj⟩:=vF.c8;clear hF vF
      exact bodyPost_ret (v:=.tuple #[.agg #[.int .i64 0,.int .i64 0,.int .i64 0,.int .i64 0,.int .i64 0,.string ⟨#[]⟩,.string ⟨#[]⟩,.slice none 0 0],.bool false])
       (by simp[results,Tryz.results103,go_sem,I,U,X,Z,ae,ah,ai,aj]) rfl ⟨_,_,by rw[T.o];rfl,by rw[T.o];exact ja _,by simp,gF⟩
set_option maxRecDepth 100000 in
theorem Cw{fg:List Nat}{cg:Array Value}(g:(af d)){ft:List Nat}{ct:Array Value}(t:fU){fx:List Nat}{cx:Array Value}(x:av)(w:World)(hg:Rd.rd fg w cg.toList g)(ht:Rd.rd ft w ct.toList t)(hx:Rd.rd fx w cx.toList x)(hl:aP g≤1048576):
  Calls Tryz.prog 62 #[.agg cg,.agg ct,.agg cx] w (Found [] w (dS g t x) qW):=by
 have dG:=Kz hl;clear hl;have HG:=Kz hg;obtain⟨g0,X,bB,bD,vW,bH,bK,vX,rfl,rfl,-,wm,uw,uL,wz,uR,uW⟩:=yt hg;clear hg;have HT:=Kz ht;obtain⟨t0,bL,bN,wI,rfl,rfl,-,dL,uZ,nz⟩:=K8 ht;have dU:=dL.op3;clear ht;have HX:=Kz hx;obtain⟨x0,U,rfl,rfl,-,wK,nS⟩:=K7 hx;clear hx;have nZ:=Kz nS;go_in;go_wp2_with fail;refine(su (g0,X) t0 (x0,U) _ (Rd.gr HG.o gd) (Rd.gr HT.o gd) (Rd.gr HX.o gd) dG.o).mono ?_;rintro e w' ⟨es,fq,rfl,hr,-,z1,rfl⟩;obtain⟨r0,r1,r2,r3,dW,rfl,-,wN,wO,wP⟩:=Ld (x:=(ed (g0,X) t0 (x0,U)).getD dR) hr;have oh:=Kz dW;have wZ:=Lt dW hr;clear hr dW;obtain⟨bb,aS⟩:∃b:Bool,b=(ed (g0,X) t0 (x0,U)).isSome:=⟨_,rfl⟩;rw[←aS];have kE:=Kz aS;clear aS;generalize hB:((((w.alloc (.cells #[.slice bB g0.length bD,.slice bH X.length bK] 36)).alloc (.cells #[.slice bL t0.length bN] 40)).alloc (.cells #[.int .i64 x0,.string U] 63)).alloc (.cells #[.int .i64 0,.int .i64 0,.int .i64 0,.int .i64 0,.int .i64 0,.string ⟨#[]⟩,.string ⟨#[]⟩,.slice none 0 0] 117)).ext z1=B;have gB:Gr w B:=gb hB;obtain⟨kL,oo⟩:=kb2 hB (w.heap.size) (.slice bB g0.length bD) (.slice bH X.length bK);have eH:=kb hB (w.heap.size+1) 0 (.slice bL t0.length bN);obtain⟨fe,oq⟩:=kb2 hB (w.heap.size+1+1) (.int .i64 x0) (.string U);obtain⟨fu,w9⟩:=kb2 hB (w.heap.size+2) (.int .i64 x0) (.string U);have EB:=Kz hB;clear hB;have aV:Ky (az B (w.heap.size+1+1+1) 117 [.int .i64 0,.int .i64 0,.int .i64 0,.int .i64 0,.int .i64 0,.string ⟨#[]⟩,.string ⟨#[]⟩,.slice none 0 0]):=Kz (az.gr (w:=(((w.alloc (.cells #[.slice bB g0.length bD,.slice bH X.length bK] 36)).alloc (.cells #[.slice bL t0.length bN] 40)).alloc (.cells #[.int .i64 x0,.string U] 63)).alloc (.cells #[.int .i64 0,.int .i64 0,.int .i64 0,.int .i64 0,.int .i64 0,.string ⟨#[]⟩,.string ⟨#[]⟩,.slice none 0 0] 117)) (by unfold az;simpa using heap_alloc_new (((w.alloc (.cells #[.slice bB g0.length bD,.slice bH X.length bK] 36)).alloc (.cells #[.slice bL t0.length bN] 40)).alloc (.cells #[.int .i64 x0,.string U] 63)) (.cells #[.int .i64 0,.int .i64 0,.int .i64 0,.int .i64 0,.int .i64 0,.string ⟨#[]⟩,.string ⟨#[]⟩,.slice none 0 0] 117)) (by rw[←EB.o];exact gd));have y2:=eH _ (Gr.refl _);have y3:=fe _ (Gr.refl _);have y5:=fu _ (Gr.refl _);have bV:=blk y2;have cK:=blk y3;go_wp2_with fail;clear y2 y3 y5 bV cK;generalize hC:B.alloc (.cells #[.string r0,.int .i64 r1,.int .i64 r2,.bool r3] 81)=C;have fw:Gr B C:=gb hC;have kQ:C.cell? ⟨B.heap.size,2,none⟩=some (.int .i64 r2):=by rw[←hC];exact kd
 clear hC;refine(iI t0 x0 _ (Rd.gr HT.o (gB.trans fw))).mono ?_;rintro e W6 ⟨rfl,g6⟩;have gT:=fw.trans g6;have nM:=g6.keep kQ;clear kQ g6 fw;have y0:=kL _ gT;have y2:=eH _ gT;have y3:=fe _ gT;have y5:=fu _ gT;have bV:=blk y2;have cK:=blk y3;obtain⟨O,hO⟩:=nm (dQ t0 x0);rw[←hO];have HO:=Kz hO;have ae:=Kz (gB.trans gT);clear hO
 cases bb with
 |false=>
  have ah:dS (g0,X) t0 (x0,U)=none:=wG (iK kE.o.symm);have vR:=az.gr aV.o (gT);obtain⟨q,D,E,H,I,J,K,T⟩:=vR.c8;have aj:=vR.frozen;have fA:=blk q;have au:=Kz vR;clear vR;have ai:=Kz ah;clear ah;go_wp2_with fail;clear q D E H I J K T aj;generalize Z:((((((((W6.setCell ⟨w.heap.size+1+1+1,0,none⟩ (.int .i64 0)).setCell ⟨w.heap.size+1+1+1,1,none⟩ (.int .i64 0)).setCell ⟨w.heap.size+1+1+1,2,none⟩ (.int .i64 0)).setCell ⟨w.heap.size+1+1+1,3,none⟩ (.int .i64 0)).setCell ⟨w.heap.size+1+1+1,4,none⟩ (.int .i64 0)).setCell ⟨w.heap.size+1+1+1,5,none⟩ (.string ⟨#[]⟩)).setCell ⟨w.heap.size+1+1+1,6,none⟩ (.string ⟨#[]⟩)).setCell ⟨w.heap.size+1+1+1,7,none⟩ (.slice none 0 0))=WF;have vF:az WF (w.heap.size+1+1+1) 117 [.int .i64 0,.int .i64 0,.int .i64 0,.int .i64 0,.int .i64 0,.string ⟨#[]⟩,.string ⟨#[]⟩,.slice none 0 0]:=by rw[←Z];exact(az.ic au.o _ _ _ _ _ _ _ _).gr (Gr.refl _)
  have wF:Wr [w.heap.size+1+1+1] W6 WF:=by rw[←Z];exact(Wr.ic _ _ _ _ _ _ _ _ _ _).gr (Gr.refl _)
  have gF:Gr w WF:=by rw[←Z];exact(Gr.ic ae.o (by omega) _ _ _ _ _ _ _ _).trans (Gr.refl _)
  obtain⟨q,D,E,H,I,J,K,T⟩:=vF.c8;clear Z vF
  exact bodyPost_ret (v:=.tuple #[.agg #[.int .i64 0,.int .i64 0,.int .i64 0,.int .i64 0,.int .i64 0,.string ⟨#[]⟩,.string ⟨#[]⟩,.slice none 0 0],.bool false])
   (by simp[results,Tryz.results62,go_sem,q,D,E,H,I,J,K,T]) rfl ⟨_,_,by rw[ai.o];rfl,by rw[ai.o];exact ja _,by simp,gF⟩
 |true=>
  have ay:ed (g0,X) t0 (x0,U)=some (r0,r1,r2,r3):=jw kE.o.symm oh.o.symm
  by_cases fK:r2=3
  ·have ah:dS (g0,X) t0 (x0,U)=none:=wV ay fK
   subst fK;clear ay;have vR:=az.gr aV.o (gT);obtain⟨q,D,E,H,I,J,K,T⟩:=vR.c8;have aj:=vR.frozen;have fA:=blk q;have au:=Kz vR;clear vR;have ai:=Kz ah;clear ah;go_wp2_with fail;clear q D E H I J K T aj;generalize Z:((((((((W6.setCell ⟨w.heap.size+1+1+1,0,none⟩ (.int .i64 0)).setCell ⟨w.heap.size+1+1+1,1,none⟩ (.int .i64 0)).setCell ⟨w.heap.size+1+1+1,2,none⟩ (.int .i64 0)).setCell ⟨w.heap.size+1+1+1,3,none⟩ (.int .i64 0)).setCell ⟨w.heap.size+1+1+1,4,none⟩ (.int .i64 0)).setCell ⟨w.heap.size+1+1+1,5,none⟩ (.string ⟨#[]⟩)).setCell ⟨w.heap.size+1+1+1,6,none⟩ (.string ⟨#[]⟩)).setCell ⟨w.heap.size+1+1+1,7,none⟩ (.slice none 0 0))=WF;have vF:az WF (w.heap.size+1+1+1) 117 [.int .i64 0,.int .i64 0,.int .i64 0,.int .i64 0,.int .i64 0,.string ⟨#[]⟩,.string ⟨#[]⟩,.slice none 0 0]:=by rw[←Z];exact(az.ic au.o _ _ _ _ _ _ _ _).gr (Gr.refl _)
   have wF:Wr [w.heap.size+1+1+1] W6 WF:=by rw[←Z];exact(Wr.ic _ _ _ _ _ _ _ _ _ _).gr (Gr.refl _)
   have gF:Gr w WF:=by rw[←Z];exact(Gr.ic ae.o (by omega) _ _ _ _ _ _ _ _).trans (Gr.refl _)
   obtain⟨q,D,E,H,I,J,K,T⟩:=vF.c8;clear Z vF
   exact bodyPost_ret (v:=.tuple #[.agg #[.int .i64 0,.int .i64 0,.int .i64 0,.int .i64 0,.int .i64 0,.string ⟨#[]⟩,.string ⟨#[]⟩,.slice none 0 0],.bool false])
    (by simp[results,Tryz.results62,go_sem,q,D,E,H,I,J,K,T]) rfl ⟨_,_,by rw[ai.o];rfl,by rw[ai.o];exact ja _,by simp,gF⟩
  ·go_upto_if 39 with fail
   go_cut [11,12] (fun ow oz wr=>∃OZ PZ,ow=.int .i64 OZ∧oz=.int .i64 PZ∧Ky (dS (g0,X) t0 (x0,U)=KL (g0,X) t0 OZ PZ U)∧Ky ((Lit.int .i64 PZ).wf=true)∧Ky (Gr W6 wr))
   case first=>
    by_cases kS:r2=1
    ·subst kS
     obtain⟨n,hn,kT⟩:=Fe ay;have HN:=Kz hn;have oG:=Kz ay;have oH:O=n:=HO.o.trans hn;subst oH;clear ay hn;have aN:=kT;have cO:=gB.trans gT;obtain⟨b,off,rfl,aS⟩:=dU n aN;obtain⟨q0,q1,q2,q3,q4,q5,xc,xg,xR,xS,oK,x9,yc,yf,oL,yh,ym,yo,ve,vo,yu,yL,yN,yO,yQ,yT,yX⟩:=KZ dL aN cO;have j0:(0:Int)≤(n:Int):=by omega
     have j1:(n:Int)<(t0.length:Int):=by omega
     have ax:dS (g0,X) t0 (x0,U)=KL (g0,X) t0 q1 q2 U:=by
      have h1:=zw oG.o rfl HN.o kT;rw[←oK.o] at h1;exact h1
     have aZ:=Kz oL;go_wp2_with fail;go_meet;exact⟨q1,q2,rfl,rfl,Kz ax,aZ,Kz gd⟩
    ·have ax:dS (g0,X) t0 (x0,U)=KL (g0,X) t0 O 0 U:=by rw[HO.o];exact zQ ay fK kS
     have aZ:=Kz (show(Lit.int .i64 0).wf=true by decide);go_wp2_with fail;go_meet;exact⟨O,0,rfl,rfl,Kz ax,aZ,Kz gd⟩
   case rest=>
    clear ay y0 y2 y3 y5 ae bV cK nM;obtain⟨OZ,PZ,rfl,rfl,oN,aZ,oV⟩:=hcut
    rename World=>W7
    have ax:=oN.o;replace gT:=gT.trans oV.o;have ae:=Kz (gB.trans gT);have y0:=kL _ gT;have y1:=oo _ gT;have y2:=eH _ gT;have y3:=fe _ gT;have y4:=oq _ gT;have y5:=fu _ gT;have bV:=blk y2;have cK:=blk y3
    by_cases gm:0≤OZ∧OZ≤(t0.length:Int) - 1
    ·obtain⟨m,rfl⟩:∃m:Nat,OZ=m:=⟨OZ.toNat,by omega⟩
     have aN:m<t0.length:=by omega
     have kV:=Kz ax;have kX:=Kz gm;clear ax gm;have cO:=ae.o;obtain⟨b,off,rfl,aS⟩:=dU m aN;obtain⟨p0,p1,p2,p3,p4,p5,yY,y7,y8,y9,oW,za,zb,ze,zf,zg,zi,zl,vv,vB,o9,pG,pM,pR,kZ,pV,zm⟩:=KZ dL aN cO;have j0:(0:Int)≤(m:Int):=by omega
     have j1:(m:Int)<(t0.length:Int):=by omega
     obtain⟨Y,hY⟩:=nm ((dJ X p4).getD fH);have lq:=oF (g:=(g0,X)) (p:=PZ) (n:=U) (y:=Y) aN (by rw[←oW.o];exact hY);have lG:bF Y≤1048576:=by rw[hY];exact wh dG.o p4
     have lV:=Kz lq;have p9:=Kz lG;have qo:=Kz hY;clear hY lq lG cO;go_wp2_with fail;refine(fJ (m:Int) 0 _ _ kX.o.1 kX.o.2).mono ?_;rintro e W8 ⟨rfl,g8⟩;go_wp2_with fail;have u0:=g8.keep y0;have u1:=g8.keep y1;have u2:=g8.keep y2;have u3:=g8.keep y3;have u4:=g8.keep y4;have uq:=g8.keep kZ;have l5:=Kz (ae.o.trans g8);have qD:=Kz (gT.trans g8);have zn:=blk u3;have k0:=fun(w':World) (h:Gr W8 w')=>(⟨h.keep u0,h.keep u1,h.keep u2,h.keep uq⟩:_∧_∧_∧_)
     clear y0 y1 y2 y3 y4 y5 o9 pG pM pR kZ pV g8
     go_cut [13] (fun s wr=>EP W8 Y s wr)
     case first=>
      go_region_held3 (fun w'=>Gr W8 w') (exact ga)
       (first|(go_at_call 87;refine(iM (g0,X) p4 _ (Rd.gr HG.o (l5.o.trans ga)) dG.o).mono ?_;rintro e w' ⟨es,fq,rfl,hr,dz,x2,rfl⟩;obtain⟨s0,s1,s2,s3,s4,s5,qE,qG,qN,qR,qV,qX,rf,rq,rD,gD,rfl,-,l6,l7,l8,vC,vD,ma,vE,vI,mf,vL,vN⟩:=KV (x:=(dJ X p4).getD fH) hr;have rE:=Kz gD;have dA:=Lt gD hr;clear hr gD;obtain⟨b2,gH⟩:∃b:Bool,b=(dJ X p4).isSome:=⟨_,rfl⟩;rw[←gH];have zo:=Kz gH;clear gH))
      all_goals
       go_wp2_with fail;go_meet;have hY:Y=(s0,s1,s2,s3,s4,s5):=qo.o.trans rE.o.symm;subst hY;have gM:∀c∈fq,c<w.heap.size∨_≤c:=fun c hc=>(dz c hc).imp (Rd.lt HG.o c) id
       refine⟨_,[.string s0,.string s1,.slice qE s2.length qG,.bool s3,.slice qR s4.length qV,.slice rf s5.length rq],fq,rfl,gd,fun j u hj=>?_,?_,by first|omega|(simp;done)|(simp;omega)⟩
       ·match j,hj with
        |0,hj=>obtain rfl:=Option.some.inj hj;exact kd
        |1,hj=>obtain rfl:=Option.some.inj hj;exact kd
        |2,hj=>obtain rfl:=Option.some.inj hj;exact kd
        |3,hj=>obtain rfl:=Option.some.inj hj;exact kd
        |4,hj=>obtain rfl:=Option.some.inj hj;exact kd
        |5,hj=>obtain rfl:=Option.some.inj hj;exact kd
       ·first
         |(refine Rd.gr dA.o ?_;(repeat(first|exact Gr.refl _|apply Gr.ext|apply Gr.alloc|apply Gr.drew));done)
         |((with_reducible refine Rd.mono (dO ?_) dA.o);exact fun c hc e=>by subst e;have:=gM _ hc;simp at this;omega)
         |((with_reducible refine Rd.mono (dM ?_) dA.o);exact fun c hc e=>by subst e;have:=gM _ hc;simp at this;omega)
         |((with_reducible refine Rd.mono (iT ?_) dA.o);exact fun c hc e=>by subst e;have:=gM _ hc;simp at this;omega)
     case rest=>
      obtain⟨zt,nO,f12,rfl,g9,aL,ik,vO⟩:=hcut
      rename World=>W9
      obtain⟨s0,s1,s2,s3,s4,s5⟩:=Y;obtain⟨zu,qN,zx,qX,zy,rD,mh,-,l6,l7,l8,ma,mf⟩:=aM (cs:=nO.toArray) s0 s1 s2 s3 s4 s5 (by simpa using ik);obtain rfl:=toL mh;have rR:=Kz ik;have c0:=aL 0 _ rfl;have c1:=aL 1 _ rfl;have c2:=aL 2 _ rfl;have c3:=aL 3 _ rfl;have c4:=aL 4 _ rfl;have c5:=aL 5 _ rfl;have zz:=blk c0;have v4:=g9.keep u4;have iw:=Kz (l5.o.trans g9);have mo:=Kz (qD.o.trans g9);have rT:=Kz (az.gr aV.o mo.o).lt;clear aL ik mh k0 u0 u1 u2 u3 u4 uq g9 l6 l7 l8 ma mf;go_wp2_with fail;refine(lQ (s0,s1,s2,s3,s4,s5) (PZ,U) _ (Rd.gr rR.o gd) (bO PZ U aZ.o nZ.o) p9.o).mono ?_;rintro e dC ⟨es,fq,rfl,hr,dz,jN⟩;obtain⟨e0,e1,e2,e3,e4,e5,e6,bg,bq,zA,jX,rfl,mq,sw,sG,sH,sN,sO,sW,mr,vU,vV⟩:=KU (x:=(il s4 (PZ,U)).getD ng) hr;have tJ:=Kz jX;have zC:=Lt jX hr;clear hr jX;obtain⟨b3,j4⟩:∃b:Bool,b=(il s4 (PZ,U)).isSome:=⟨_,rfl⟩;rw[←j4];have mH:=Kz j4;clear j4;have j5:=Kz (iw.o.trans jN);have nP:=Kz (mo.o.trans jN);have vR:=az.gr aV.o (nP.o);obtain⟨q,D,E,H,I,J,K,T⟩:=vR.c8;have aj:=vR.frozen;have fA:=blk q;have au:=Kz vR;clear vR;clear jN
      cases b3 with
      |false=>
       have ah:dS (g0,X) t0 (x0,U)=none:=by rw[kV.o,lV.o,iK mH.o.symm];rfl
       have ae:=j5;have ai:=Kz ah;clear ah;go_wp2_with fail;clear q D E H I J K T aj;generalize Z:(((((((((dC.setCell ⟨w.heap.size+1+1+1,0,none⟩ (.int .i64 0)).setCell ⟨w.heap.size+1+1+1,1,none⟩ (.int .i64 0)).setCell ⟨w.heap.size+1+1+1,2,none⟩ (.int .i64 0)).setCell ⟨w.heap.size+1+1+1,3,none⟩ (.int .i64 0)).setCell ⟨w.heap.size+1+1+1,4,none⟩ (.int .i64 0)).setCell ⟨w.heap.size+1+1+1,5,none⟩ (.string ⟨#[]⟩)).setCell ⟨w.heap.size+1+1+1,6,none⟩ (.string ⟨#[]⟩)).setCell ⟨w.heap.size+1+1+1,7,none⟩ (.slice none 0 0)).alloc (.cells #[.int .i64 e0,.int .i64 e1,.int .i64 e2,.int .i64 e3,.string e4,.string e5,.slice bg e6.length bq] 115))=WF;have vF:az WF (w.heap.size+1+1+1) 117 [.int .i64 0,.int .i64 0,.int .i64 0,.int .i64 0,.int .i64 0,.string ⟨#[]⟩,.string ⟨#[]⟩,.slice none 0 0]:=by rw[←Z];exact(az.ic au.o _ _ _ _ _ _ _ _).gr (Gr.alloc (Gr.refl _) _)
       have wF:Wr [w.heap.size+1+1+1] dC WF:=by rw[←Z];exact(Wr.ic _ _ _ _ _ _ _ _ _ _).gr (Gr.alloc (Gr.refl _) _)
       have gF:Gr w WF:=by rw[←Z];exact(Gr.ic ae.o (by omega) _ _ _ _ _ _ _ _).trans (Gr.alloc (Gr.refl _) _)
       obtain⟨q,D,E,H,I,J,K,T⟩:=vF.c8;clear Z vF
       exact bodyPost_ret (v:=.tuple #[.agg #[.int .i64 0,.int .i64 0,.int .i64 0,.int .i64 0,.int .i64 0,.string ⟨#[]⟩,.string ⟨#[]⟩,.slice none 0 0],.bool false])
        (by simp[results,Tryz.results62,go_sem,q,D,E,H,I,J,K,T]) rfl ⟨_,_,by rw[ai.o];rfl,by rw[ai.o];exact ja _,by simp,gF⟩
      |true=>
       have ku:dS (g0,X) t0 (x0,U)=some ((m:Int),(e0,e1,e2,e3,e4,e5,e6)):=by rw[kV.o,lV.o,jw mH.o.symm tJ.o.symm];rfl
       have ky:=Kz ku;have HM:=Kz (jm (y:=(m:Int)) (by omega) (by have:=nz;omega));have mZ:=Kz dz;clear ku dz;have ae:=j5;have uh:=Kz mr;clear mr;go_wp2_with fail;clear q D E H I J K T aj;generalize Z:(((((((((dC.setCell ⟨w.heap.size+1+1+1,0,none⟩ (.int .i64 m)).setCell ⟨w.heap.size+1+1+1,1,none⟩ (.int .i64 e0)).setCell ⟨w.heap.size+1+1+1,2,none⟩ (.int .i64 e1)).setCell ⟨w.heap.size+1+1+1,3,none⟩ (.int .i64 e2)).setCell ⟨w.heap.size+1+1+1,4,none⟩ (.int .i64 e3)).setCell ⟨w.heap.size+1+1+1,5,none⟩ (.string e4)).setCell ⟨w.heap.size+1+1+1,6,none⟩ (.string e5)).setCell ⟨w.heap.size+1+1+1,7,none⟩ (.slice bg e6.length bq)).alloc (.cells #[.int .i64 e0,.int .i64 e1,.int .i64 e2,.int .i64 e3,.string e4,.string e5,.slice bg e6.length bq] 115))=WF;have vF:az WF (w.heap.size+1+1+1) 117 [.int .i64 m,.int .i64 e0,.int .i64 e1,.int .i64 e2,.int .i64 e3,.string e4,.string e5,.slice bg e6.length bq]:=by rw[←Z];exact(az.ic au.o _ _ _ _ _ _ _ _).gr (Gr.alloc (Gr.refl _) _)
       have wF:Wr [w.heap.size+1+1+1] dC WF:=by rw[←Z];exact(Wr.ic _ _ _ _ _ _ _ _ _ _).gr (Gr.alloc (Gr.refl _) _)
       have gF:Gr w WF:=by rw[←Z];exact(Gr.ic ae.o (by omega) _ _ _ _ _ _ _ _).trans (Gr.alloc (Gr.refl _) _)
       obtain⟨q,D,E,H,I,J,K,T⟩:=vF.c8;clear Z vF;have ui:=(uh.o.wr wF (fun c hc hm=>by have:=(mZ.o c (by rw[mq.o];simpa using hc)).resolve_left (by simp);have:=iw.o.size;have:=rT.o;simp at hm;omega))
       exact bodyPost_ret (v:=.tuple #[.agg #[.int .i64 m,.int .i64 e0,.int .i64 e1,.int .i64 e2,.int .i64 e3,.string e4,.string e5,.slice bg e6.length bq],.bool true])
        (by simp[results,Tryz.results62,go_sem,q,D,E,H,I,J,K,T]) rfl ⟨_,_,by rw[ky.o];rfl,by rw[ky.o];exact iZ (m:Int) e0 e1 e2 e3 e4 e5 e6 HM.o sw sG sH sN sO sW ui,fun c hc=>.inr (by have:=(mZ.o c (by rw[mq.o];simpa using hc)).resolve_left (by simp);have:=iw.o.size;omega),gF⟩
    ·have kz:OZ<0∨(t0.length:Int) - 1<OZ:=by omega
     have ah:dS (g0,X) t0 (x0,U)=none:=by rw[ax,mQ kz]
     have um:=Kz kz;clear ax kz gm;go_wp2_with fail;refine(eu OZ 0 _ _ um.o).mono ?_;rintro e W8 ⟨rfl,g8⟩;have ae:=Kz (ae.o.trans g8);have vR:=az.gr aV.o (gT.trans g8);obtain⟨q,D,E,H,I,J,K,T⟩:=vR.c8;have aj:=vR.frozen;have fA:=blk q;have au:=Kz vR;clear vR;clear g8;have ai:=Kz ah;clear ah;go_wp2_with fail;clear q D E H I J K T aj;generalize Z:((((((((W8.setCell ⟨w.heap.size+1+1+1,0,none⟩ (.int .i64 0)).setCell ⟨w.heap.size+1+1+1,1,none⟩ (.int .i64 0)).setCell ⟨w.heap.size+1+1+1,2,none⟩ (.int .i64 0)).setCell ⟨w.heap.size+1+1+1,3,none⟩ (.int .i64 0)).setCell ⟨w.heap.size+1+1+1,4,none⟩ (.int .i64 0)).setCell ⟨w.heap.size+1+1+1,5,none⟩ (.string ⟨#[]⟩)).setCell ⟨w.heap.size+1+1+1,6,none⟩ (.string ⟨#[]⟩)).setCell ⟨w.heap.size+1+1+1,7,none⟩ (.slice none 0 0))=WF;have vF:az WF (w.heap.size+1+1+1) 117 [.int .i64 0,.int .i64 0,.int .i64 0,.int .i64 0,.int .i64 0,.string ⟨#[]⟩,.string ⟨#[]⟩,.slice none 0 0]:=by rw[←Z];exact(az.ic au.o _ _ _ _ _ _ _ _).gr (Gr.refl _)
     have wF:Wr [w.heap.size+1+1+1] W8 WF:=by rw[←Z];exact(Wr.ic _ _ _ _ _ _ _ _ _ _).gr (Gr.refl _)
     have gF:Gr w WF:=by rw[←Z];exact(Gr.ic ae.o (by omega) _ _ _ _ _ _ _ _).trans (Gr.refl _)
     obtain⟨q,D,E,H,I,J,K,T⟩:=vF.c8;clear Z vF
     exact bodyPost_ret (v:=.tuple #[.agg #[.int .i64 0,.int .i64 0,.int .i64 0,.int .i64 0,.int .i64 0,.string ⟨#[]⟩,.string ⟨#[]⟩,.slice none 0 0],.bool false])
      (by simp[results,Tryz.results62,go_sem,q,D,E,H,I,J,K,T]) rfl ⟨_,_,by rw[ai.o];rfl,by rw[ai.o];exact ja _,by simp,gF⟩
end Go.Proofs.YtdhighcpmcdmmaaGreat
