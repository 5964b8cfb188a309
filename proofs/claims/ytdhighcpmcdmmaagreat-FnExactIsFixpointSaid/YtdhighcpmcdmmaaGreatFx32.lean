/- Contracts and laws towards ReadsOf, part 31 of 54. No condition. -/
import Derived.Test.YtdhighcpmcdmmaaGreatFx26
import Derived.Test.YtdhighcpmcdmmaaGreatFx31
import Derived.Test.YtdhighcpmcdmmaaGreatFx27
set_option maxHeartbeats 32000000
set_option maxRecDepth 10000
set_option linter.unusedVariables false
set_option linter.unusedSimpArgs false
namespace Go.Proofs.YtdhighcpmcdmmaaGreat
open Go.RowKit
open _root_.List (getElem_mem take_length)
variable{d:Nat}
variable{fg fr:List Nat}{cg cr:Array Value}
def kg(g:af d)(r:aW d)(x:aA d):Prop:=∀o∈gP (d+1) x,qp g r o
theorem xQ{fx:List Nat}{cx:Array Value}(g:af d)(r:aW d)(x:aA d)(w:World)(hg:Rd.rd fg w cg.toList g)(hr:Rd.rd fr w cr.toList r)(hx:Rd.rd fx w cx.toList x)(hl:aP g≤1048576)(bK:ak x≤1048576):
  Qz 316 #[.agg cg,.agg cr,.agg cx] w (.bool (pB (kg g r x))):=by
 have ae:cZ (d+1) x≤2097152:=by
  have h1:=AQ (d+1) x;have h2:wtE (d+1) x=ak x:=rfl;omega
 have bL:=Kz ae;have bN:=Kz hl;have bV:=Kz hx;obtain⟨US,X⟩:=nm (gP (d+1) x);have ah:=Kz X;obtain⟨R,hR⟩:=nm (pB (kg g r x));rw[←hR];have bD:=Kz (show R=pB (∀o∈US,qp g r o) by rw[hR,X];rfl);obtain⟨x0,x1,x2,x3,x4,x5,ax,lx,kx,rfl⟩:=eO hx;clear ae hl hx hR bK X;have HG:=Kz hg;obtain⟨E,H,ai,aj,gH,au,aL,gM,rfl,rfl,-,gT,dW,eH,ik,fe,fu⟩:=yt hg;clear hg;have HR:=Kz hr;obtain⟨I,J,K,O,T,U,aN,aS,jN,aV,aZ,jX,bg,bq,j4,rfl,rfl,-,j5,ku,kz,fw,fA,kE,fK,gm,kL,gD,gF⟩:=KV hr;clear hr;delta Qz;go_in;go_wp2_with fail;refine(Bb _ _ x _ (Rd.gr bV.o gd) bL.o).mono ?_;rintro e w' ⟨u,fq,s,rfl,hs,hm,z1,rfl⟩;generalize hB:(((w.alloc (.cells #[.slice ai E.length aj,.slice au H.length aL] 36)).alloc (.cells #[.string I,.string J,.slice aN K.length aS,.bool O,.slice aV T.length aZ,.slice bg U.length bq] 112)).alloc (.cells #[.int .i64 x0,.int .i64 x1,.int .i64 x2,.int .i64 x3,.string x4,.string x5,.slice ax lx kx] 115)).ext z1=B at hs ⊢;have gB:Gr w B:=gb hB;have VG:=Kz (show az B w.heap.size 36 [.slice ai E.length aj,.slice au H.length aL] from by rw[←hB];exact(az.new (A:=w) rfl).gr gd);have VR:=Kz (show az B (w.heap.size+1) 112 [.string I,.string J,.slice aN K.length aS,.bool O,.slice aV T.length aZ,.slice bg U.length bq] from by rw[←hB];exact kv);have cK:=Kz gB;have HS:=Kz hs;have HM:=Kz (show R=pB (∀o∈s,qp (E,H) (I,J,K,O,T,U) o) from bD.o.trans (iO ⟨fun h o ho=>h o (by rw[ah.o];exact(hm o).1 ho),fun h o ho=>h o ((hm o).2 (by rw[←ah.o];exact ho))⟩));obtain⟨ay,ky,rfl,kQ,kS,cO⟩:=hs.open;clear hs hm hB gB;go_wp2_with fail
 go_loopw [8] (fun s8 wr=>∃k:Nat,k≤s.length∧Ky (∀o∈s.take k,qp (E,H) (I,J,K,O,T,U) o)∧Ky (Gr B wr)∧s8=.int .i64 k) (fun s8 _=>s.length - (intOf s8).toNat)
 case atStart=>exact⟨0,by omega,Kz (by simp),Kz (Gr.refl _),rfl⟩
 case round=>
  obtain⟨k,hk,HA,q,rfl⟩:=hrel
  rename World=>W1
  have Y:=Kz (cK.o.trans q.o)
  by_cases D:k<s.length
  ·have dz:=Kz (fun h=>dD D HA.o h)
   have bH:=Kz (getElem_mem D);obtain⟨b,off,rfl,hb⟩:=cO k D;obtain⟨p0,p1,bB,dA,dC,dG,z0,z1,zb⟩:=Le HS.o D q.o;have k0:(0:Int)≤(k:Int):=by omega
   have k1:(k:Int)<(s.length:Int):=by omega
   have iw:=zI1 k (by omega);have vg:=VG.o.gr q.o;have vr:=VR.o.gr q.o;obtain⟨dL,kT⟩:=vg.c2;obtain⟨dU,kV,kX,kZ,lq,lG⟩:=vr.c6;have zg:=blk dL;have zr:=blk dU;obtain⟨M,hM⟩:=nm (pB (qp (E,H) (I,J,K,O,T,U) (p0,p1)));have Z:=Kz hM;clear dC dG hM vg vr;go_wp2_with fail;refine wg ?_
   repeat(go_big_quiet_step ((go_at_call 330;refine aG (xP (E,H) (I,J,K,O,T,U) (p0,p1) _ (Rd.gr HG.o ?_) (Rd.gr HR.o ?_) (Rd.gr dA.o ?_) bN.o)<;>first|exact Y.o.trans gd|exact q.o.trans gd)))
   refine wq fun nx=>?_
   rw[←Z.o]
   cases M with
   |true=>
    go_wp2_with fail;exact⟨⟨k+1,by omega,Kz (dz.o (by rw[←bB.o];exact dx.1 Z.o.symm)),Kz (tg q),by go_num⟩,by simp[intOf];omega⟩
   |false=>
    go_wp2_with fail;go_ret;exact⟨aa (by rw[HM.o];exact(bz fun h=>lM Z.o.symm (by have h1:=h _ bH.o;rw[←bB.o] at h1;exact h1)).symm),Y.o.trans gd⟩
  ·obtain rfl:k=s.length:=by omega
   rw[take_length] at HA;go_wp2_with fail;go_ret;exact⟨aa (by rw[HM.o];exact(bQ HA.o).symm),Y.o⟩
def kH(g:af d)(r:aW d):Prop:=(∀q∈r.2.2.2.2.1,kg g r q.2)∧∀c∈r.2.2.2.2.2,kg g r c.2.2.1∧kg g r c.2.2.2
theorem iU{fx:List Nat}{cx:Array Value}(g:af d)(r:aW d)(x:aA d)(b:Bool)(w:World)(s:Rd.rd fg w cg.toList g)(B:Rd.rd fr w cr.toList r)(D:Rd.rd fx w cx.toList x)(E:aP g≤1048576)(q:ak x≤1048576)(H:pB (kg g r x)=b):
  Qz 316 #[.agg cg,.agg cr,.agg cx] w (.bool b):=by
 have h:=xQ g r x w s B D E q;rw[H] at h;exact h
theorem xL(g:af d)(r:aW d)(w:World)(hg:Rd.rd fg w cg.toList g)(hr:Rd.rd fr w cr.toList r)(hl:aP g≤1048576)(kL:bF r≤1048576):
  Qz 274 #[.agg cg,.agg cr] w (.bool (!pB (kH g r))):=by
 have bB:=Kz hl;have HG:=Kz hg;obtain⟨O,T,kQ,kS,vE,kT,kV,vF,rfl,rfl,-,vI,rE,rR,vL,rT,sw⟩:=yt hg;clear hg;have HR:=Kz hr;obtain⟨E,H,I,U,s,D,kX,kZ,vN,lq,lG,vO,lV,l5,vR,rfl,rfl,-,vU,vV,vW,sG,sH,l6,sN,sO,l7,sW,tJ⟩:=KV hr;have mr:=l6.op3;have mH:=l7.op3;clear hr;have l8:E.size+H.size+wtL ByteArray.size I+wtL aU s+wtL aI D≤1048576:=kL;have vX:s.length≤1048576:=by have:=bT aU s;omega
 have wm:D.length≤1048576:=by have:=bT aI D;omega
 have HL:=Kz l8;clear hl kL l8;delta Qz;go_in;go_wp2_with fail;generalize hB:(w.alloc (.cells #[.slice kQ O.length kS,.slice kT T.length kV] 36)).alloc (.cells #[.string E,.string H,.slice kX I.length kZ,.bool U,.slice lq s.length lG,.slice lV D.length l5] 112)=B;have gB:Gr w B:=gb hB;have VG:=Kz (show az B w.heap.size 36 [.slice kQ O.length kS,.slice kT T.length kV] from by rw[←hB];exact kv);have VR:=Kz (show az B (w.heap.size+1) 112 [.string E,.string H,.slice kX I.length kZ,.bool U,.slice lq s.length lG,.slice lV D.length l5] from by rw[←hB];exact kv);have ma:=Kz gB;clear hB gB
 go_loopw [5] (fun s5 wr=>∃k:Nat,k≤s.length∧Ky (∀q∈s.take k,kg (O,T) (E,H,I,U,s,D) q.2)∧Ky (Gr B wr)∧s5=.int .i64 k) (fun s5 _=>s.length - (intOf s5).toNat)
 case atStart=>exact⟨0,by omega,Kz (by simp),Kz (Gr.refl _),rfl⟩
 case round=>
  obtain⟨k,hk,HA,J,rfl⟩:=hrel
  rename World=>W1
  have ay:=ma.o.trans J.o;have K:=Kz ay
  by_cases Y:k<s.length
  ·have dz:=dI aU s Y
   have dG:=Kz (fun h=>dD Y HA.o h);have cO:=Kz (getElem_mem Y);obtain⟨b,off,rfl,nS⟩:=mr k Y;obtain⟨nZ,mf,bD,bH,bK,bL,bN,bV,cK,uh,ui,um,oh,aL,oo,mZ,nz,dL,dU,dW,eH,fe,fu,nM,qR,qV,oq,ow,oz,oG,oH,oK,oL,oN,oV,oW⟩:=KY l6 Y ay
   have mh:=Kz (show ak (bD,bH,bK,bL,bN,bV,cK)≤1048576 by
    have h2:=HL.o;rw[←aL.o] at dz;have h3:aU (((nZ,mf),(bD,bH,bK,bL,bN,bV,cK)):aX d)=mf.size+ak (bD,bH,bK,bL,bN,bV,cK):=rfl;omega)
   have mo:=Kz (bJ bD bH bK bL bN bV cK dL dU dW eH fe fu nM);clear dz ay mZ nz dL dU dW eH fe fu;have k0:(0:Int)≤(k:Int):=by omega
   have k1:(k:Int)<(s.length:Int):=by omega
   have iw:=zI1 k (by omega);have vg:=VG.o.gr J.o;have vr:=VR.o.gr J.o;obtain⟨fw,o9⟩:=vg.c2;obtain⟨fA,pG,pM,pR,pV,p9⟩:=vr.c6;have zg:=blk fw;have zr:=blk fA;clear vg vr
   by_cases hu:kg (O,T) (E,H,I,U,s,D) (bD,bH,bK,bL,bN,bV,cK)
   ·have HU:=Kz hu
    have HB:=Kz (bQ hu);clear hu;go_wp2_with fail;refine wg ?_
    repeat(go_big_quiet_step ((go_at_call 316;refine aG (iU (O,T) (E,H,I,U,s,D) (bD,bH,bK,bL,bN,bV,cK) true _ (Rd.gr HG.o ?_) (Rd.gr HR.o ?_) (Rd.gr mo.o ?_) bB.o mh.o HB.o)<;>exact K.o.trans gd)))
    refine wq fun nx=>?_
    go_wp2_with fail;exact⟨⟨k+1,by omega,Kz (dG.o (by rw[←aL.o];exact HU.o)),Kz (tg J),by go_num⟩,by simp[intOf];omega⟩
   ·have HU:=Kz hu
    have HB:=Kz (bz hu);have HF:=Kz (bz (show¬kH (O,T) (E,H,I,U,s,D) from fun h=>HU.o (by have h1:=h.1 _ cO.o;rw[←aL.o] at h1;exact h1)));clear hu;go_wp2_with fail;refine wg ?_
    repeat(go_big_quiet_step ((go_at_call 316;refine aG (iU (O,T) (E,H,I,U,s,D) (bD,bH,bK,bL,bN,bV,cK) false _ (Rd.gr HG.o ?_) (Rd.gr HR.o ?_) (Rd.gr mo.o ?_) bB.o mh.o HB.o)<;>exact K.o.trans gd)))
    refine wq fun nx=>?_
    go_wp2_with fail;go_ret;exact⟨aa (by rw[HF.o];rfl),K.o.trans gd⟩
  ·obtain rfl:k=s.length:=by omega
   rw[take_length] at HA;have qo:=HA;have vr:=VR.o.gr J.o;have qD:=vr.c 4;have mq:=vr.c 5;clear HA vr;go_wp2_with fail
   go_loopw [6] (fun s5 wr=>∃k:Nat,k≤D.length∧Ky (∀c∈D.take k,kg (O,T) (E,H,I,U,s,D) c.2.2.1∧kg (O,T) (E,H,I,U,s,D) c.2.2.2)∧Ky (Gr B wr)∧s5=.int .i64 k) (fun s5 _=>D.length - (intOf s5).toNat)
   case atStart=>exact⟨0,by omega,Kz (by simp),J,rfl⟩
   case round=>
    clear qD mq J K ay;obtain⟨k,hk,HA,J,rfl⟩:=hrel
    rename World=>W2
    have ay:=ma.o.trans J.o;have K:=Kz ay
    by_cases Y:k<D.length
    ·have dz:=dI aI D Y
     have dG:=Kz (fun h=>dD Y HA.o h);have cO:=Kz (getElem_mem Y);obtain⟨b,off,rfl,nS⟩:=mH k Y;obtain⟨q0,q1,X,ae,ah,ai,aj,au,ax,Z,aN,aS,aV,aZ,bg,bq,uq,uw,uL,uR,uW,uZ,oh,aL,oo,qE,qG,fK,gm,gD,gF,gH,gM,nO,qX,rf,gT,ik,jN,jX,j4,j5,nP,rq,rD,oq,ow,oz,oG,oH,oK,oL,oN,oV,wz,ve,vo,vv,vB,vC,vD,oW⟩:=KW l7 Y ay
     have qN:q0.size+q1.size+ak (X,ae,ah,ai,aj,au,ax)+ak (Z,aN,aS,aV,aZ,bg,bq)≤1048576:=by
      have h2:=HL.o;rw[←aL.o] at dz;have h3:aI ((q0,q1,(X,ae,ah,ai,aj,au,ax),(Z,aN,aS,aV,aZ,bg,bq)):aD d)=q0.size+q1.size+ak (X,ae,ah,ai,aj,au,ax)+ak (Z,aN,aS,aV,aZ,bg,bq):=rfl;omega
     have dA:=Kz (show ak (X,ae,ah,ai,aj,au,ax)≤1048576 by omega);have ku:=Kz (show ak (Z,aN,aS,aV,aZ,bg,bq)≤1048576 by omega);have dC:=Kz (bJ X ae ah ai aj au ax fK gm gD gF gH gM nO);have ky:=Kz (bJ Z aN aS aV aZ bg bq gT ik jN jX j4 j5 nP);clear dz qN ay qE qG fK gm gD gF gH gM gT ik jN jX j4 j5;have k0:(0:Int)≤(k:Int):=by omega
     have wF:(k:Int)<(D.length:Int):=by omega
     have iw:=zI1 k (by omega);have vg:=VG.o.gr J.o;have vr:=VR.o.gr J.o;obtain⟨fw,o9⟩:=vg.c2;obtain⟨fA,pG,pM,pR,pV,p9⟩:=vr.c6;have zg:=blk fw;have zr:=blk fA;clear vg vr
     by_cases hu:kg (O,T) (E,H,I,U,s,D) (X,ae,ah,ai,aj,au,ax)
     ·have HU:=Kz hu
      have HB:=Kz (bQ hu);clear hu
      by_cases hu:kg (O,T) (E,H,I,U,s,D) (Z,aN,aS,aV,aZ,bg,bq)
      ·have kz:=Kz hu
       have kE:=Kz (bQ hu);clear hu;go_wp2_with fail;refine wg ?_
       repeat(go_big_quiet_step (first|(go_at_call_of 316 X;refine aG (iU (O,T) (E,H,I,U,s,D) (X,ae,ah,ai,aj,au,ax) true _ (Rd.gr HG.o ?_) (Rd.gr HR.o ?_) (Rd.gr dC.o ?_) bB.o dA.o HB.o)<;>exact K.o.trans gd)|(go_at_call_of 316 Z;refine aG (iU (O,T) (E,H,I,U,s,D) (Z,aN,aS,aV,aZ,bg,bq) true _ (Rd.gr HG.o ?_) (Rd.gr HR.o ?_) (Rd.gr ky.o ?_) bB.o ku.o kE.o)<;>exact K.o.trans gd)))
       refine wq fun nx=>?_
       go_wp2_with fail;exact⟨⟨k+1,by omega,Kz (dG.o (by rw[←aL.o];exact⟨HU.o,kz.o⟩)),Kz (tg J),by go_num⟩,by simp[intOf];omega⟩
      ·have kz:=Kz hu
       have kE:=Kz (bz hu);have HF:=Kz (bz (show¬kH (O,T) (E,H,I,U,s,D) from fun h=>kz.o (by have h1:=(h.2 _ cO.o).2;rw[←aL.o] at h1;exact h1)));clear hu;go_wp2_with fail;refine wg ?_
       repeat(go_big_quiet_step (first|(go_at_call_of 316 X;refine aG (iU (O,T) (E,H,I,U,s,D) (X,ae,ah,ai,aj,au,ax) true _ (Rd.gr HG.o ?_) (Rd.gr HR.o ?_) (Rd.gr dC.o ?_) bB.o dA.o HB.o)<;>exact K.o.trans gd)|(go_at_call_of 316 Z;refine aG (iU (O,T) (E,H,I,U,s,D) (Z,aN,aS,aV,aZ,bg,bq) false _ (Rd.gr HG.o ?_) (Rd.gr HR.o ?_) (Rd.gr ky.o ?_) bB.o ku.o kE.o)<;>exact K.o.trans gd)))
       refine wq fun nx=>?_
       go_wp2_with fail;go_ret;exact⟨aa (by rw[HF.o];rfl),K.o.trans gd⟩
     ·have HU:=Kz hu
      have HB:=Kz (bz hu);have HF:=Kz (bz (show¬kH (O,T) (E,H,I,U,s,D) from fun h=>HU.o (by have h1:=(h.2 _ cO.o).1;rw[←aL.o] at h1;exact h1)));clear hu;go_wp2_with fail;refine wg ?_
      repeat(go_big_quiet_step ((go_at_call_of 316 X;refine aG (iU (O,T) (E,H,I,U,s,D) (X,ae,ah,ai,aj,au,ax) false _ (Rd.gr HG.o ?_) (Rd.gr HR.o ?_) (Rd.gr dC.o ?_) bB.o dA.o HB.o)<;>exact K.o.trans gd)))
      refine wq fun nx=>?_
      go_wp2_with fail;go_ret;exact⟨aa (by rw[HF.o];rfl),K.o.trans gd⟩
    ·obtain rfl:k=D.length:=by omega
     rw[take_length] at HA;have HF:=Kz (bQ (show kH (O,T) (E,H,I,U,s,D) from⟨qo.o,HA.o⟩));have vr:=VR.o.gr J.o;have mq:=vr.c 5;clear vr;go_wp2_with fail;go_ret;exact⟨aa (by rw[HF.o];rfl),K.o⟩
noncomputable def mG(g:af d)(r:aW d)(c:Int):Bool:=if c=3 then !pB (nV g r) else if c=4 then !pB (FL g r) else if c=5 then !pB (qd g r) else !pB (kH g r)
def Du(g:af d):Prop:=∀s,g.1.head?=some s→∀a∈s.2,a.2.2.1≠1
def o7(g:af d):Prop:=(1≤g.1.length∧g.1.length≤4)∧(1≤g.2.length∧g.2.length≤8)∧Jm g∧Du g∧∀r∈g.2,∀c:Int,3≤c→c≤6→mG g r c=false
def Fg(g:af d)(w:World)(e:Ending)(w':World):Prop:=∃c i:Int,e=.returned (.tuple #[.int .i64 c,.int .i64 i])∧(c=0↔o7 g)∧Gr w w'
theorem xY(g:af d)(r:aW d)(c:Int)(w:World)(Y:Rd.rd fg w cg.toList g)(Z:Rd.rd fr w cr.toList r)(hl:aP g≤1048576)(I:bF r≤1048576):
  Qz 231 #[.agg cg,.agg cr,.int .i64 c] w (.bool (mG g r c)):=by
 have h:=Kz hl;have s:=Kz I;have J:=Kz Y;obtain⟨K,O,aZ,bg,bq,bB,bD,bH,rfl,rfl,-,bK,ah,ai,bL,aj,au⟩:=yt Y;clear Y;have T:=Kz Z;obtain⟨B,D,q,U,E,H,bN,bV,cK,cO,dz,dA,dC,dG,dL,rfl,rfl,-,dU,dW,eH,ax,ay,fe,aL,aN,fu,aS,aV⟩:=KV Z;clear Z
 have ae:q.length≤1048576:=by
  have h1:B.size+D.size+wtL ByteArray.size q+wtL aU E+wtL aI H≤1048576:=I;have h2:=bT ByteArray.size q;omega
 clear hl I;obtain⟨R,hR⟩:=nm (mG (K,O) (B,D,q,U,E,H) c);rw[←hR];have X:=Kz hR;clear hR;delta Qz;go_in
 go_wp2_with (first|(go_at_call 271;refine(yx (K,O) (B,D,q,U,E,H) _ (Rd.gr J.o gd) (Rd.gr T.o gd) h.o ae).mono ?_;rintro e w' ⟨rfl,x1,rfl⟩)|(go_at_call 272;refine(Cj (K,O) (B,D,q,U,E,H) _ (Rd.gr J.o gd) (Rd.gr T.o gd) h.o s.o).mono ?_;rintro e w' ⟨rfl,x1,rfl⟩)|(go_at_call 273;refine(Bc (K,O) (B,D,q,U,E,H) _ (Rd.gr J.o gd) (Rd.gr T.o gd) h.o s.o).mono ?_;rintro e w' ⟨rfl,x1,rfl⟩)|(go_at_call 274;refine(xL (K,O) (B,D,q,U,E,H) _ (Rd.gr J.o gd) (Rd.gr T.o gd) h.o s.o).mono ?_;rintro e w' ⟨rfl,x1,rfl⟩))
 go_ways
 all_goals
  go_ret;refine⟨aa ?_,gd⟩;rw[X.o];unfold mG;clear X J T h s
  first|(simp_all;done)
theorem wX(g:af d)(w:World)(hg:Rd.rd fg w cg.toList g)(hl:aP g≤1048576):
  Calls Tryz.prog 187 #[.agg cg] w (Fg g w):=by
 have aV:=Kz hl;have HG:=Kz hg;obtain⟨E,q,aZ,bg,l5,bq,bB,l6,rfl,rfl,-,bD,kz,kE,bH,kL,kQ⟩:=yt hg;have dL:=bD.op3;have dU:=bH.op3;clear hg;have bK:wtL bM E+wtL bF q≤1048576:=hl;have l7:E.length≤1048576:=by have:=bT bM E;omega
 have l8:q.length≤1048576:=by have:=bT bF q;omega
 have HL:=Kz bK;clear hl bK
 by_cases J:(1≤(E.length:Int)∧(E.length:Int)≤4)∧(1≤(q.length:Int)∧(q.length:Int)≤8)
 ·have bL:(decide (1≤(E.length:Int))&&decide ((E.length:Int)≤4))=true:=by rw[decide_eq_true J.1.1,decide_eq_true J.1.2];rfl
  have bN:(decide (1≤(q.length:Int))&&decide ((q.length:Int)≤8))=true:=by rw[decide_eq_true J.2.1,decide_eq_true J.2.2];rfl
  have X:=Kz J;have h00:0<E.length:=by omega
  have H:=h00;clear J;go_in
  go_wp2_with (first|(go_at_call_of 86 E;refine(fI _ _ _ _).mono ?_;rintro e w' ⟨rfl,rfl⟩;rw[bL])|(go_at_call_of 86 q;refine(fI _ _ _ _).mono ?_;rintro e w' ⟨rfl,rfl⟩;rw[bN]))
  refine(C8 _ _ (E,q) _ (Rd.gr HG.o gd) aV.o).mono ?_;rintro e w' ⟨bi,rfl,ma,mf,Y,x1,rfl⟩;have ah:=Kz Y;clear Y bL bN
  by_cases ai:0≤bi
  ·go_wp2_with fail
   exact bodyPost_ret (v:=.tuple #[.int .i64 1,.int .i64 bi]) (by simp[results,Tryz.results187,go_sem]) rfl ⟨1,bi,rfl,⟨fun h=>absurd h (by decide),fun h=>by have:=ah.o.2 h.2.2.1;omega⟩,gd⟩
  ·have eH:=Kz (ah.o.1 (by omega))
   have mh:¬(0≤bi):=ai;clear ah ai;go_wp2_with fail;generalize hB:((w.alloc (.cells #[.slice aZ E.length bg,.slice bq q.length bB] 36)).ext x1)=B;have gB:Gr w B:=gb hB;obtain⟨aj,au⟩:=kb2 hB (w.heap.size) (.slice aZ E.length bg) (.slice bq q.length bB);clear hB;obtain⟨b,off,rfl,Y⟩:=dL 0 H;obtain⟨q0,q1,mo,mq,mr,mH,ax,fe,fu,ay,kS,kT,fw,bV,mZ⟩:=K9 bD H gB;have dW:=ay.op3;simp only[Nat.zero_mul,Nat.add_zero,Nat.zero_add] at fw bV
   have aL:q1.length≤1048576:=by
    have I:=dI bM E h00;have h2:=HL.o;rw[←ax.o] at I;have h3:bM ((q0,q1):bC)=q0.size+wtL bI q1:=rfl;have h4:=bT bI q1;omega
   have fA:=Kz ay;have fK:=Kz aL;have cK:=Kz (show(q0,q1)=E[0]'h00 from ax.o);clear H aL ax fe fu ay;have aL:q1.length≤1048576:=fK.o
   go_loopw [5] (fun s5 wr=>∃k:Nat,k≤q1.length∧Ky (∀a∈q1.take k,a.2.2.1≠1)∧Ky (Gr B wr)∧s5=.int .i64 k) (fun s5 _=>q1.length - (intOf s5).toNat)
   case atStart=>exact⟨0,by omega,Kz (by simp),Kz (Gr.refl _),rfl⟩
   case round=>
    obtain⟨k,hk,Z,D,rfl⟩:=hrel
    rename World=>W1
    have K:=gB.trans D.o;have O:=Kz K;have y0:=aj _ D.o;have y1:=au _ D.o;have zy:=blk y0;have gm:=D.o.keep bV
    by_cases H:k<q1.length
    ·have aN:=Kz (fun h=>dD H Z.o h)
     have ae:=Kz (getElem_mem H);obtain⟨b,off,rfl,Y⟩:=dW k H;obtain⟨p0,p1,p2,p3,U,cO,dz,dA,dC,gD,gF,gH,gM,gT⟩:=K5 fA.o H K;have k0:(0:Int)≤(k:Int):=by omega
     have k1:(k:Int)<(q1.length:Int):=by omega
     have iw:=zI1 k (by omega);clear K
     by_cases hm:p2=1
     ·have ik:(p2==1)=true:=by simp[hm]
      have HM:=Kz hm;clear hm;go_wp2_with fail
      exact bodyPost_ret (v:=.tuple #[.int .i64 2,.int .i64 0]) (by simp[results,Tryz.results187,go_sem]) rfl ⟨2,0,rfl,⟨fun h=>absurd h (by decide),fun h=>by
       have I:=h.2.2.2.1 (q0,q1) (by rw[cK.o];show E.head?=_;rw[List.head?_eq_getElem?];exact List.getElem?_eq_getElem h00) _ ae.o;rw[←U.o] at I;exact absurd HM.o I⟩,O.o.trans gd⟩
     ·have ik:(p2==1)=false:=by simpa using hm
      have HM:=Kz hm;clear hm;go_wp2_with fail;exact⟨⟨k+1,by omega,Kz (aN.o (by rw[←U.o];exact HM.o)),Kz (tg D),by go_num⟩,by simp[intOf];omega⟩
    ·obtain rfl:k=q1.length:=by omega
     rw[take_length] at Z
     have jN:=Kz (show Du (E,q) from fun s hs a ha=>by
      have I:E.head?=some s:=hs;rw[List.head?_eq_getElem?,List.getElem?_eq_getElem h00] at I;injection I with I;rw[←I,←cK.o] at ha;exact Z.o a ha)
     clear Z;go_wp2_with fail;clear gm y0 y1 zy K O
     go_loopw [6] (fun s6 wr=>∃c:Int,3≤c∧c≤7∧Ky (∀r∈q,∀T:Int,3≤T→T<c→mG (E,q) r T=false)∧Ky (Gr B wr)∧s6=.int .i64 c) (fun s6 _=>7 - (intOf s6).toNat)
     case atStart=>exact⟨3,by omega,by omega,Kz (fun r hr T I h2=>by omega),D,rfl⟩
     case round=>
      clear D;obtain⟨c,jX,nz,dG,D,rfl⟩:=hrel
      rename World=>W2
      have y0:=aj _ D.o;have y1:=au _ D.o;have zy:=blk y0;have nM:IntKind.i64.wrap (c+1)=c+1:=IntWalk.i64_in _ (by omega)
      by_cases hc:c≤6
      ·go_wp2_with fail
       go_loopw [7] (fun s7 wr=>∃k:Nat,k≤q.length∧Ky (∀r∈q.take k,mG (E,q) r c=false)∧Ky (Gr B wr)∧s7=.int .i64 k) (fun s7 _=>q.length - (intOf s7).toNat)
       case atStart=>exact⟨0,by omega,Kz (by simp),D,rfl⟩
       case round=>
        clear y0 y1 zy D;obtain⟨k,hk,Z,D,rfl⟩:=hrel
        rename World=>W3
        have K:=gB.trans D.o;have O:=Kz K;have y0:=aj _ D.o;have y1:=au _ D.o;have zy:=blk y0
        by_cases H:k<q.length
        ·have aN:=Kz (fun h=>dD H Z.o h)
         have ae:=Kz (getElem_mem H);have j4:=dI bF q H;have j5:=Kz (show bF q[k]≤1048576 by have:=HL.o;omega);clear j4;obtain⟨b,off,rfl,Y⟩:=dU k H;obtain⟨p0,p1,p2,p3,p4,p5,nO,nP,nS,nZ,oh,oo,oq,ow,oz,oG,U,cO,dz,dA,dC,kV,kX,ku,kZ,lq,ky,lG,lV,gD,gF,gH,gM,oH,oK,gT⟩:=Lf bH H K;have k0:(0:Int)≤(k:Int):=by omega
         have k1:(k:Int)<(q.length:Int):=by omega
         have iw:=zI1 k (by omega);obtain⟨M,hM⟩:=nm (mG (E,q) (p0,p1,p2,p3,p4,p5) c);have aS:=Kz hM;clear K hM dz dA dC ku ky;go_wp2_with fail;refine wg ?_
         repeat(go_big_quiet_step ((go_at_call 231;refine aG (xY (E,q) (p0,p1,p2,p3,p4,p5) c _ (Rd.gr HG.o ?_) (Rd.gr cO.o ?_) aV.o (by rw[U.o];exact j5.o))<;>exact O.o.trans gd)))
         refine wq fun nx=>?_
         rw[←aS.o]
         cases M with
         |false=>
          go_wp2_with fail;exact⟨⟨k+1,by omega,Kz (aN.o (by rw[←U.o];exact aS.o.symm)),Kz (tg D),by go_num⟩,by simp[intOf];omega⟩
         |true=>
          go_wp2_with fail
          exact bodyPost_ret (v:=.tuple #[.int .i64 c,.int .i64 k]) (by simp[results,Tryz.results187,go_sem]) rfl ⟨c,k,rfl,⟨fun h=>by omega,fun h=>by
           have I:=h.2.2.2.2 _ ae.o c jX hc;rw[←U.o,←aS.o] at I
           cases I⟩,O.o.trans gd⟩
        ·obtain rfl:k=q.length:=by omega
         rw[take_length] at Z;go_wp2_with fail
         exact⟨⟨c+1,by omega,by omega,Kz (fun r hr T I h2=>by
          by_cases h3:T<c
          ·exact dG.o r hr T I h3
          ·obtain rfl:T=c:=by omega
           exact Z.o r hr),D,rfl⟩,by simp[intOf];omega⟩
      ·have HF:=Kz (show o7 (E,q) from⟨by have I:=X.o.1;show 1≤E.length∧E.length≤4;omega,by have I:=X.o.2;show 1≤q.length∧q.length≤8;omega,eH.o,jN.o,fun r hr T I h2=>dG.o r hr T I (by omega)⟩)
       have O:=Kz (gB.trans D.o);go_wp2_with fail;exact bodyPost_ret (v:=.tuple #[.int .i64 0,.int .i64 0]) (by simp[results,Tryz.results187,go_sem]) rfl ⟨0,0,rfl,⟨fun _=>HF.o,fun _=>rfl⟩,O.o⟩
 ·have X:=Kz J
  have HN:=Kz (show¬o7 (E,q) from fun h=>X.o ⟨by have I:1≤E.length∧E.length≤4:=h.1;omega,by have I:1≤q.length∧q.length≤8:=h.2.1;omega⟩);clear J;go_in
  go_wp2_with (first|(go_at_call_of 86 E;refine(fI _ _ _ _).mono ?_;rintro e w' ⟨rfl,rfl⟩)|(go_at_call_of 86 q;refine(fI _ _ _ _).mono ?_;rintro e w' ⟨rfl,rfl⟩))
  go_ways
  all_goals first
   |(exfalso;refine X.o ⟨?_,?_⟩<;>first|assumption|(simp_all;done)|(simp_all;omega))
   |(exact bodyPost_ret (v:=.tuple #[.int .i64 1,.int .i64 0]) (by simp[results,Tryz.results187,go_sem]) rfl ⟨1,0,rfl,⟨fun h=>absurd h (by decide),fun h=>absurd h HN.o⟩,gd⟩)
  
end Go.Proofs.YtdhighcpmcdmmaaGreat
