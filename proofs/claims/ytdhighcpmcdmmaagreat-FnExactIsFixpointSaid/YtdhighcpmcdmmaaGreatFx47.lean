/- Contracts and laws towards ReadsOf, part 48 of 54. No condition. -/
import Derived.Test.YtdhighcpmcdmmaaGreatFx46
set_option maxHeartbeats 32000000
set_option maxRecDepth 10000
set_option linter.unusedVariables false
set_option linter.unusedSimpArgs false
namespace Go.Proofs.YtdhighcpmcdmmaaGreat
open Go.RowKit
open _root_.List (getElem_mem take_length)
variable{d:Nat}
variable{fr fg:List Nat}{cr cg:Array Value}
theorem OA{α:Type}(f:α→Nat)(xs:List α){k:Nat}(h:k<xs.length):f xs[k]+1≤wtL f xs:=by
 have q:=eZ f xs k h;have s:=gJ f xs (k+1);unfold wtL;omega
theorem Nz{q:List (aX d)}(h:wtL aU q≤1048576){k:Nat}(s:k<q.length):cZ (d+1) (q[k].2:aA d)≤1048576:=by
 have B:=OA aU q s;have D:aU q[k]=dn q[k].1+ak q[k].2:=rfl;have E:=AQ (d+1) (q[k].2:aA d);have H:wtE (d+1) (q[k].2:aA d)=ak q[k].2:=rfl;omega
theorem ML(r:aW d)(w:World)(hr:Rd.rd fr w cr.toList r)(ay:bF r≤1048576):
  Qz 124 #[.agg cr] w (.bool (!pB (∀q∈r.2.2.2.2.1,bX (d+1) q.2))):=by
 obtain⟨r0,r1,r2,r3,s,r5,aL,aN,gm,aS,aV,gD,aZ,bg,gF,rfl,rfl,-,gH,gM,gT,dL,dU,bq,dW,eH,ik,fe,fu⟩:=KV hr;have bK:=bq.op3;clear hr;have cO:r0.size+r1.size+wtL ByteArray.size r2+wtL aU s+wtL aI r5≤1048576:=ay;have jN:s.length≤1048576:=by have:=bT aU s;omega
 obtain⟨R,hR⟩:=nm (pB (∀q∈s,bX (d+1) q.2))
 show Calls _ _ _ _ fun e w'=>e=.returned (.bool (!pB (∀q∈s,bX (d+1) q.2)))∧Gr w w'
 rw[←hR];have bB:=Kz hR;clear ay cO hR;(try delta Qz);go_in;go_wp2_with fail;generalize hB:(w.alloc (.cells #[.string r0,.string r1,.slice aL r2.length aN,.bool r3,.slice aS s.length aV,.slice aZ r5.length bg] 112))=B;have gB:Gr w B:=gb hB;obtain⟨jX,j4,j5,ku,dz,ky⟩:=kb6 hB (w.heap.size) (.string r0) (.string r1) (.slice aL r2.length aN) (.bool r3) (.slice aS s.length aV) (.slice aZ r5.length bg);have sB:B.heap.size=w.heap.size+1:=szB hB;clear hB
 go_loopw [3] (fun s3 wr=>∃k:Nat,k≤s.length∧Ky (∀q∈s.take k,bX (d+1) q.2)∧Ky (Gr B wr)∧s3=.int .i64 k) (fun s3 _=>s.length - (intOf s3).toNat)
 case atStart=>exact⟨0,by omega,Kz (by simp),Kz (Gr.refl _),rfl⟩
 case round=>
  obtain⟨k,hk,HA,Y,rfl⟩:=hrel
  rename World=>W1
  have Z:=gB.trans Y.o;have D:=Kz Z;have y4:=dz _ Y.o;have zy:=blk y4
  by_cases E:k<s.length
  ·have dA:=Kz (fun h=>dD E HA.o h)
   have bL:=Kz (getElem_mem E);obtain⟨b,off,rfl,kz⟩:=bK k E;obtain⟨kE,kL,H,I,J,K,O,T,U,fw,fA,fK,kQ,bD,kS,bN,bV,ae,ah,ai,aj,au,ax,cK,dC,dG,kT,kV,kX,kZ,lq,lG,lV,l5,l6,l7⟩:=KY bq E Z;have bH:=Kz (bJ H I J K O T U ae ah ai aj au ax cK);clear Z bN bV ae ah ai aj au ax;have k0:(0:Int)≤(k:Int):=by omega
   have k1:(k:Int)<(s.length:Int):=by omega
   have iw:=zI1 k (by omega);obtain⟨M,hM⟩:=nm (pB (bX (d+1) ((H,I,J,K,O,T,U):aA d)));have X:=Kz hM;clear hM
   cases M with
   |true=>
    go_wp2_with (first|(go_at_call 186;refine(vG (d+1) _ _ ((H,I,J,K,O,T,U):aA d) _ (Rd.gr bH.o (tg D))).mono ?_;rintro e w' ⟨he,x1,rfl⟩;obtain rfl:e=.returned (.bool false):=he.trans (by rw[←X.o];rfl)))
    exact⟨⟨k+1,by omega,Kz (dA.o (by rw[←bD.o];exact dx.1 X.o.symm)),Kz (tg Y),by go_num⟩,by simp[intOf];omega⟩
   |false=>
    go_wp2_with (first|(go_at_call 186;refine(vG (d+1) _ _ ((H,I,J,K,O,T,U):aA d) _ (Rd.gr bH.o (tg D))).mono ?_;rintro e w' ⟨he,x1,rfl⟩;obtain rfl:e=.returned (.bool true):=he.trans (by rw[←X.o];rfl)))
    go_ret;exact⟨aa (by rw[bB.o,bz fun h=>lM X.o.symm (by have h1:=h _ bL.o;rw[←bD.o] at h1;exact h1)];rfl),D.o.trans gd⟩
  ·obtain rfl:k=s.length:=by omega
   rw[take_length] at HA;go_wp2_with fail;go_ret;exact⟨aa (by rw[bB.o,bQ HA.o];rfl),D.o⟩
theorem ND(r:aW d)(b:Bool)(w:World)(B:Rd.rd fr w cr.toList r)(s:bF r≤1048576)(D:pB (∀q∈r.2.2.2.2.1,bX (d+1) q.2)=b):
  Qz 124 #[.agg cr] w (.bool (!b)):=by
 have h:=ML r w B s;rw[D] at h;exact h
theorem Nj(g:af d)(r:aW d)(w:World)(hg:Rd.rd fg w cg.toList g)(hr:Rd.rd fr w cr.toList r)(hl:aP g≤1048576)(aS:bF r≤1048576):
  Qz 60 #[.agg cg,.agg cr] w (.bool (pB (NC g r))):=by
 have j4:=Kz hl;have j5:=Kz aS;have HG:=Kz hg;obtain⟨g0,g1,cO,dz,mH,dA,dC,mZ,rfl,rfl,-,nz,lq,lG,nM,lV,l5⟩:=yt hg;clear hg;have HR:=Kz hr;obtain⟨Z,r1,T,r3,s,r5,dG,dL,nO,dU,dW,nP,eH,fe,nS,rfl,rfl,-,nZ,oh,oo,l6,l7,fu,l8,ma,oq,mf,mh⟩:=KV hr;have ik:=fu.op3;clear hr;have ku:Z.size+r1.size+wtL ByteArray.size T+wtL aU s+wtL aI r5≤1048576:=aS;have ow:s.length≤1048576:=by have:=bT aU s;omega
 have ky:=Kz (show T.length≤1048576 by have:=bT ByteArray.size T;omega);have kz:=Kz (show wtL aU s≤1048576 by omega);obtain⟨R,hR⟩:=nm (pB (NC (g0,g1) (Z,r1,T,r3,s,r5)));rw[←hR];obtain⟨H,aV⟩:=nm (q8 (g0,g1) (Z,r1,T,r3,s,r5));have fw:=Kz (show R=pB ((∀q∈s,q.1∈H→gX H (d+1) q.2)∧∀q∈s,bX (d+1) q.2) by rw[hR,aV];rfl);have kE:=Kz aV;clear hl aS ku hR aV;delta Qz;go_in
 go_upto_region 1 with fail
 generalize hB:((w.alloc (.cells #[.slice cO g0.length dz,.slice dA g1.length dC] 36)).alloc (.cells #[.string Z,.string r1,.slice dG T.length dL,.bool r3,.slice dU s.length dW,.slice eH r5.length fe] 112))=B;have gB:Gr w B:=gb hB;obtain⟨kQ,kS⟩:=kb2 hB (w.heap.size) (.slice cO g0.length dz) (.slice dA g1.length dC);obtain⟨fA,fK,gm,gD,aZ,gF⟩:=kb6 hB (w.heap.size+1) (.string Z) (.string r1) (.slice dG T.length dL) (.bool r3) (.slice dU s.length dW) (.slice eH r5.length fe);have sB:B.heap.size=w.heap.size+2:=szB hB;clear hB;have y0:=kQ _ (Gr.refl _);have y1:=kS _ (Gr.refl _);have y2:=fA _ (Gr.refl _);have y3:=fK _ (Gr.refl _);have y4:=gm _ (Gr.refl _);have y5:=gD _ (Gr.refl _);have y6:=aZ _ (Gr.refl _);have y7:=gF _ (Gr.refl _);have kT:=blk y0;have kV:=blk y2;go_wp2_with fail;refine(M7 (g0,g1) (Z,r1,T,r3,s,r5) _ (Rd.gr HG.o (gB.trans gd)) (Rd.gr HR.o (gB.trans gd)) j4.o ky.o).mono ?_;rintro e w' ⟨vL,fL,rfl,hs,hf,x1,rfl⟩;rw[←kE.o] at hs;have HS:=Kz hs;obtain⟨aL,kL,rfl,-,-,-⟩:=hs.open;clear hs hf;go_wp2_with fail;clear y0 y1 y2 y3 y4 y5 y6 y7 kT kV
 go_loopw [6] (fun s6 wr=>∃k:Nat,k≤s.length∧Ky (∀q∈s.take k,q.1∈H→gX H (d+1) q.2)∧Ky (Gr (B.ext x1) wr)∧s6=.int .i64 k) (fun s6 _=>s.length - (intOf s6).toNat)
 case atStart=>exact⟨0,by omega,Kz (by simp),Kz (Gr.refl _),rfl⟩
 case round=>
  obtain⟨k,hk,HA,D,rfl⟩:=hrel
  rename World=>W1
  have E:=Kz ((show Gr B (B.ext x1) from gd).trans D.o);have bg:=gB.trans E.o;have U:=Kz bg;have y4:=aZ _ E.o;have zy:=blk y4
  by_cases X:k<s.length
  ·have gH:=Kz (fun h=>dD X HA.o h)
   have jN:=Kz (getElem_mem X);have bq:=Kz (Nz kz.o X);obtain⟨b,off,rfl,oz⟩:=ik k X;obtain⟨I,J,ae,ah,ai,aj,au,ax,ay,mo,mq,mr,oG,aN,oH,bB,bD,bH,bK,bL,bN,bV,cK,jX,kX,kZ,oK,oL,oN,oV,oW,o9,pG,pM,pR,pV⟩:=KY fu X bg;have gM:=Kz (bJ ae ah ai aj au ax ay bH bK bL bN bV cK jX);have O:=Kz (And.intro bB bD);clear bg bB bD bH bK bL bN bV cK;have k0:(0:Int)≤(k:Int):=by omega
   have k1:(k:Int)<(s.length:Int):=by omega
   have iw:=zI1 k (by omega);rw[←aN.o] at bq;obtain⟨C,hC⟩:=nm (pB ((I,J)∈H));obtain⟨M,hM⟩:=nm (pB (gX H (d+1) ((ae,ah,ai,aj,au,ax,ay):aA d)));have Y:=Kz hC;have K:=Kz hM;clear hC hM
   cases C with
   |true=>
    cases M with
    |true=>
     go_wp2_with (first|(go_at_call 122;refine(qc H (I,J) _ (HS.o.gr (tg D)) (bO I J O.o.1 O.o.2)).mono ?_;rintro e w' ⟨rfl,x2,rfl⟩;rw[←Y.o])|(go_at_call 123;refine(LB (d+1) _ _ _ _ ((ae,ah,ai,aj,au,ax,ay):aA d) H _ (Rd.gr gM.o (tg U)) (HS.o.gr (tg D)) bq.o).mono ?_;rintro e w' ⟨rfl,x3,rfl⟩;rw[←K.o]))
     exact⟨⟨k+1,by omega,Kz (gH.o (by rw[←aN.o];exact fun _=>dx.1 K.o.symm)),Kz (tg D),by go_num⟩,by simp[intOf];omega⟩
    |false=>
     go_wp2_with (first|(go_at_call 122;refine(qc H (I,J) _ (HS.o.gr (tg D)) (bO I J O.o.1 O.o.2)).mono ?_;rintro e w' ⟨rfl,x2,rfl⟩;rw[←Y.o])|(go_at_call 123;refine(LB (d+1) _ _ _ _ ((ae,ah,ai,aj,au,ax,ay):aA d) H _ (Rd.gr gM.o (tg U)) (HS.o.gr (tg D)) bq.o).mono ?_;rintro e w' ⟨rfl,x3,rfl⟩;rw[←K.o]))
     go_ret
     exact⟨aa (fw.o.trans (bz fun h=>by
      have h1:=h.1 _ jN.o;rw[←aN.o] at h1;exact lM K.o.symm (h1 (dx.1 Y.o.symm)))).symm,U.o.trans gd⟩
   |false=>
    go_wp2_with (first|(go_at_call 122;refine(qc H (I,J) _ (HS.o.gr (tg D)) (bO I J O.o.1 O.o.2)).mono ?_;rintro e w' ⟨rfl,x2,rfl⟩;rw[←Y.o]))
    exact⟨⟨k+1,by omega,Kz (gH.o (by rw[←aN.o];exact fun h=>absurd h (lM Y.o.symm))),Kz (tg D),by go_num⟩,by simp[intOf];omega⟩
  ·obtain rfl:k=s.length:=by omega
   rw[take_length] at HA;obtain⟨M,hM⟩:=nm (pB (∀q∈s,bX (d+1) q.2));have K:=Kz hM;clear hM;have v0:=fA _ E.o;have v1:=fK _ E.o;have v2:=gm _ E.o;have v3:=gD _ E.o;have v4:=aZ _ E.o;have v5:=gF _ E.o;have zv:=blk v0;have gT:=Kz (show R=M by rw[fw.o,K.o];exact iO ⟨fun h=>h.2,fun h=>⟨HA.o,h⟩⟩)
   cases M
   all_goals
    go_wp2_with fail;refine(ND (Z,r1,T,r3,s,r5) _ _ (Rd.gr HR.o (tg U)) j5.o K.o.symm).mono ?_;rintro e w' ⟨rfl,x2,rfl⟩;go_wp2_with fail;go_ret;exact⟨aa (by first|(rw[gT.o];done)|(rw[gT.o];rfl)),U.o.trans gd⟩
theorem NN(g:af d)(r:aW d)(b:Bool)(w:World)(s:Rd.rd fg w cg.toList g)(B:Rd.rd fr w cr.toList r)(D:aP g≤1048576)(q:bF r≤1048576)(E:pB (NC g r)=b):
  Qz 60 #[.agg cg,.agg cr] w (.bool b):=by
 have h:=Nj g r w s B D q;rw[E] at h;exact h
theorem A7(g:af d)(w:World)(hg:Rd.rd fg w cg.toList g)(hl:aP g≤1048576):
  Qz 26 #[.agg cg] w (.bool (pB (Mx g))):=by
 have aL:=Kz hl;have HG:=Kz hg;obtain⟨q,E,aN,aS,ky,aV,aZ,kz,rfl,rfl,-,bg,fK,gm,bq,gD,gF⟩:=yt hg;have bV:=bg.op3;have cK:=bq.op3;clear hg;have bB:wtL bM q+wtL bF E≤1048576:=hl;have kE:q.length≤1048576:=by have:=bT bM q;omega
 have kL:E.length≤1048576:=by have:=bT bF E;omega
 have HL:=Kz bB;obtain⟨R,hR⟩:=nm (pB (Mx (q,E)));rw[←hR];have ae:=Kz hR;clear hl bB hR;delta Qz;go_in;go_wp2_with fail;generalize hB:(w.alloc (.cells #[.slice aN q.length aS,.slice aV E.length aZ] 36))=B;have gB:Gr w B:=gb hB;obtain⟨bD,bH⟩:=kb2 hB (w.heap.size) (.slice aN q.length aS) (.slice aV E.length aZ);have sB:B.heap.size=w.heap.size+1:=szB hB;clear hB
 go_loopw [3] (fun s3 wr=>∃k:Nat,k≤q.length∧Ky (∀s∈q.take k,∀a∈s.2,a.2.2.1≠3)∧B=wr∧s3=.int .i64 k) (fun s3 _=>q.length - (intOf s3).toNat)
 case atStart=>exact⟨0,by omega,Kz (by simp),rfl,rfl⟩
 case round=>
  obtain⟨k,hk,K,rfl,rfl⟩:=hrel;have y0:=bD _ (Gr.refl _);have y1:=bH _ (Gr.refl _);have zy:=blk y0
  by_cases D:k<q.length
  ·have ah:=Kz (fun h=>dD D K.o h)
   have O:=Kz (getElem_mem D)
   have ai:(q[k]).2.length≤1048576:=by
    have h1:=dI bM q D;have h2:=bT bI (q[k]).2;have T:bM q[k]=(q[k]).1.size+wtL bI (q[k]).2:=rfl;have h4:=HL.o;omega
   have I:=gB;obtain⟨b,off,rfl,bK⟩:=bV k D;obtain⟨q0,q1,kQ,kS,kT,kV,aj,kX,kZ,bL,gH,gM,lq,lG,lV⟩:=K9 bg D I;have cO:=bL.op3;rw[←aj.o] at ai;have gT:q1.length≤1048576:=ai;have k0:(0:Int)≤(k:Int):=by omega
   have k1:(k:Int)<(q.length:Int):=by omega
   have iw:=zI1 k (by omega);clear ai;go_wp2_with fail
   go_loopw [4] (fun s4 wr=>∃m:Nat,m≤q1.length∧Ky (∀a∈q1.take m,a.2.2.1≠3)∧B=wr∧s4=.int .i64 m) (fun s4 _=>q1.length - (intOf s4).toNat)
   case atStart=>exact⟨0,by omega,Kz (by simp),rfl,rfl⟩
   case round=>
    obtain⟨m,hm,HB,rfl,rfl⟩:=hrel
    by_cases U:m<q1.length
    ·have dz:=Kz (fun h=>dD U HB.o h)
     have H:=Kz (getElem_mem U);have D:=U;have I:=gB;obtain⟨b,off,rfl,bK⟩:=cO m D;obtain⟨p0,p1,Z,p3,J,bN,au,ax,ay,dA,dC,dG,dL,dU⟩:=K5 bL D I;have m0:(0:Int)≤(m:Int):=by omega
     have m1:(m:Int)<(q1.length:Int):=by omega
     have l5:=zI1 m (by omega);clear au ax ay
     by_cases T:Z=3
     ·have dW:(Z==3)=true:=by simp[T]
      have HF:=Kz (ae.o.trans (bz fun h=>h.1 _ O.o _ (by rw[←aj.o];exact H.o) (by rw[←J.o];exact T)));clear T;go_wp2_with fail;go_ret;exact⟨aa HF.o.symm,gB⟩
     ·have dW:(Z==3)=false:=by simpa using T
      have H3:=Kz (dz.o (by rw[←J.o];exact T));clear T;go_wp2_with fail;exact⟨⟨m+1,by omega,H3,(by first|trivial|rfl),by go_num⟩,by simp[intOf];omega⟩
    ·obtain rfl:m=q1.length:=by omega
     rw[take_length] at HB;go_wp2_with fail;exact⟨⟨k+1,by omega,Kz (ah.o (by rw[←aj.o];exact HB.o)),(by first|trivial|rfl),by go_num⟩,by simp[intOf];omega⟩
  ·obtain rfl:k=q.length:=by omega
   rw[take_length] at K;have eH:=K;clear K;go_wp2_with fail;clear y0 y1 zy
   go_loopw [5] (fun s5 wr=>∃k:Nat,k≤E.length∧Ky (∀r∈E.take k,NC (q,E) r)∧Ky (Gr B wr)∧s5=.int .i64 k) (fun s5 _=>E.length - (intOf s5).toNat)
   case atStart=>exact⟨0,by omega,Kz (by simp),Kz (Gr.refl _),rfl⟩
   case round=>
    obtain⟨k,hk,K,X,rfl⟩:=hrel
    rename World=>W3
    have I:=gB.trans X.o;have Y:=Kz I;have y0:=bD _ X.o;have y1:=bH _ X.o;have zy:=blk y0
    by_cases D:k<E.length
    ·have ah:=Kz (fun h=>dD D K.o h)
     have O:=Kz (getElem_mem D);have fe:=dI bF E D;have fu:=Kz (show bF E[k]≤1048576 by have:=HL.o;omega);clear fe;obtain⟨b,off,rfl,bK⟩:=cK k D;obtain⟨p0,p1,Z,p3,p4,p5,l6,l7,l8,ma,mf,mh,mo,mq,mr,mH,J,bN,au,ax,ay,ik,jN,fw,jX,j4,fA,j5,ku,dA,dC,dG,dL,mZ,nz,dU⟩:=Lf bq D I;have k0:(0:Int)≤(k:Int):=by omega
     have k1:(k:Int)<(E.length:Int):=by omega
     have iw:=zI1 k (by omega);obtain⟨M,hM⟩:=nm (pB (NC (q,E) (p0,p1,Z,p3,p4,p5)));have H:=Kz hM;clear I hM au ax ay fw fA;go_wp2_with fail;refine wg ?_
     iterate 8 (go_big_quiet_step ((go_at_call 60;refine aG (NN (q,E) (p0,p1,Z,p3,p4,p5) M _ (Rd.gr HG.o ?_) (Rd.gr bN.o ?_) aL.o (by rw[J.o];exact fu.o) H.o.symm)<;>exact Y.o.trans gd)))
     refine wq fun nx=>?_
     cases M with
     |true=>
      go_wp2_with fail;exact⟨⟨k+1,by omega,Kz (ah.o (by rw[←J.o];exact dx.1 H.o.symm)),Kz (tg X),by go_num⟩,by simp[intOf];omega⟩
     |false=>
      go_wp2_with fail;go_ret
      exact⟨aa (ae.o.trans (bz fun h=>by
       have h1:=h.2.1 _ O.o;rw[←J.o] at h1;exact lM H.o.symm h1)).symm,Y.o.trans gd⟩
    ·obtain rfl:k=E.length:=by omega
     rw[take_length] at K;obtain⟨M,hM⟩:=nm (pB (jI (q,E)));have H:=Kz hM;clear hM
     go_wp2_with (first|(go_at_call 61;refine(Ao (q,E) _ (Rd.gr HG.o (tg Y)) aL.o).mono ?_;rintro e w' ⟨rfl,x2,rfl⟩;rw[←H.o]))
     go_ret;exact⟨aa (by rw[ae.o,H.o];exact iO ⟨fun h=>⟨eH.o,K.o,h⟩,fun h=>h.2.2⟩),Y.o.trans gd⟩
end Go.Proofs.YtdhighcpmcdmmaaGreat
