/- Contracts and laws towards ReadsOf, part 32 of 54. No condition. -/
import Derived.Test.YtleafadpfeibfaaGreatRx29
import Derived.Test.YtleafadpfeibfaaGreatRx31
set_option maxHeartbeats 32000000
set_option maxRecDepth 10000
set_option linter.unusedVariables false
set_option linter.unusedSimpArgs false
namespace Go.Proofs.YtleafadpfeibfaaGreat
open Go.RowKit
open _root_.List (getElem_mem take_length)
variable{d:Nat}
variable{fg fr:List Nat}{cg cr:Array Value}
def kg(g:af d)(r:aW d)(x:aA d):Prop:=∀o∈gP (d+1) x,qp g r o
theorem xQ{fx:List Nat}{cx:Array Value}(g:af d)(r:aW d)(x:aA d)(w:World)(hg:Rd.rd fg w cg.toList g)(hr:Rd.rd fr w cr.toList r)(hx:Rd.rd fx w cx.toList x)(hl:aP g≤1048576)(bL:aS x≤1048576):
  Qz 236 #[.agg cg,.agg cr,.agg cx] w (.bool (pB (kg g r x))):=by
 have ae:cZ (d+1) x≤2097152:=by
  have h1:=AQ (d+1) x;have h2:wtE (d+1) x=aS x:=rfl;omega
 have bR:=Kz ae;have bX:=Kz hl;have cB:=Kz hx;obtain⟨US,X⟩:=nm (gP (d+1) x);have ah:=Kz X;obtain⟨R,hR⟩:=nm (pB (kg g r x));rw[←hR];have bB:=Kz (show R=pB (∀o∈US,qp g r o) by rw[hR,X];rfl);obtain⟨x0,x1,x2,x3,x4,x5,ax,lx,kx,rfl⟩:=eO hx;clear ae hl hx hR bL X;have HG:=Kz hg;obtain⟨g0,g1,ag0,kg0,o5,ag1,kg1,o9,rfl,rfl,-,qb,gF,gT,q8,gV,gX⟩:=yt hg;clear hg;have HR:=Kz hr;obtain⟨J,K,O,T,U,V,ai,aj,q9,ak,au,sO,aZ,bg,uf,rfl,rfl,-,uo,uq,uz,ik,kr,ve,ku,lq,vB,oH,oL⟩:=KV hr;clear hr;delta Qz;go_in;go_wp2_with fail;refine(Bb _ _ x _ (Rd.gr cB.o gd) bR.o).mono ?_;rintro e w' ⟨u,fq,D,rfl,hs,hm,z1,rfl⟩;generalize hB:(((w.alloc (.cells #[.slice ag0 g0.length kg0,.slice ag1 g1.length kg1] 39)).alloc (.cells #[.string J,.string K,.slice ai O.length aj,.bool T,.slice ak U.length au,.slice aZ V.length bg] 128)).alloc (.cells #[.int .i64 x0,.int .i64 x1,.int .i64 x2,.int .i64 x3,.string x4,.string x5,.slice ax lx kx] 165)).ext z1=B at hs ⊢;have gB:Gr w B:=gb hB;have VG:=Kz (show az B w.heap.size 39 [.slice ag0 g0.length kg0,.slice ag1 g1.length kg1] from by rw[←hB];exact(az.new (A:=w) rfl).gr gd);have VR:=Kz (show az B (w.heap.size+1) 128 [.string J,.string K,.slice ai O.length aj,.bool T,.slice ak U.length au,.slice aZ V.length bg] from by rw[←hB];exact kv);have cK:=Kz gB;have HS:=Kz hs;have HM:=Kz (show R=pB (∀o∈D,qp (g0,g1) (J,K,O,T,U,V) o) from bB.o.trans (iO ⟨fun h o ho=>h o (by rw[ah.o];exact(hm o).1 ho),fun h o ho=>h o ((hm o).2 (by rw[←ah.o];exact ho))⟩));obtain⟨ay,ky,rfl,vD,vF,cO⟩:=hs.open;clear hs hm hB gB;go_wp2_with fail
 go_loopw [8] (fun s8 wr=>∃k:Nat,k≤D.length∧Ky (∀o∈D.take k,qp (g0,g1) (J,K,O,T,U,V) o)∧Ky (Gr B wr)∧s8=.int .i64 k) (fun s8 _=>D.length - (intOf s8).toNat)
 case atStart=>exact⟨0,by omega,Kz (by simp),Kz (Gr.refl _),rfl⟩
 case round=>
  obtain⟨k,hk,HA,q,rfl⟩:=hrel
  rename World=>W1
  have Y:=Kz (cK.o.trans q.o)
  by_cases I:k<D.length
  ·have dB:=Kz (fun h=>dD I HA.o h)
   have bH:=Kz (getElem_mem I);obtain⟨b,off,rfl,hb⟩:=cO k I;obtain⟨p0,p1,bq,dS,dV,fe,z0,z1,zb⟩:=Le HS.o I q.o;have k0:(0:Int)≤(k:Int):=by omega
   have k1:(k:Int)<(D.length:Int):=by omega
   have iw:=zI1 k (by omega);have vg:=VG.o.gr q.o;have vr:=VR.o.gr q.o;obtain⟨fu,vG⟩:=vg.c2;obtain⟨gD,vL,vO,vR,vX,wF⟩:=vr.c6;have zg:=blk fu;have zr:=blk gD;obtain⟨M,hM⟩:=nm (pB (qp (g0,g1) (J,K,O,T,U,V) (p0,p1)));have Z:=Kz hM;clear dV fe hM vg vr;go_wp2_with fail;refine wg ?_
   repeat(go_big_quiet_step ((go_at_call 258;refine aG (xP (g0,g1) (J,K,O,T,U,V) (p0,p1) _ (Rd.gr HG.o ?_) (Rd.gr HR.o ?_) (Rd.gr dS.o ?_) bX.o)<;>first|exact Y.o.trans gd|exact q.o.trans gd)))
   refine wq fun nx=>?_
   rw[←Z.o]
   cases M with
   |true=>
    go_wp2_with fail;exact⟨⟨k+1,by omega,Kz (dB.o (by rw[←bq.o];exact dx.1 Z.o.symm)),Kz (tg q),by go_num⟩,by simp[intOf];omega⟩
   |false=>
    go_wp2_with fail;go_ret;exact⟨aa (by rw[HM.o];exact(bV fun h=>lM Z.o.symm (by have h1:=h _ bH.o;rw[←bq.o] at h1;exact h1)).symm),Y.o.trans gd⟩
  ·obtain rfl:k=D.length:=by omega
   rw[take_length] at HA;go_wp2_with fail;go_ret;exact⟨aa (by rw[HM.o];exact(bQ HA.o).symm),Y.o⟩
def kH(g:af d)(r:aW d):Prop:=(∀q∈r.2.2.2.2.1,kg g r q.2)∧∀c∈r.2.2.2.2.2,kg g r c.2.2.1∧kg g r c.2.2.2
theorem iU{fx:List Nat}{cx:Array Value}(g:af d)(r:aW d)(x:aA d)(b:Bool)(w:World)(hg:Rd.rd fg w cg.toList g)(hr:Rd.rd fr w cr.toList r)(B:Rd.rd fx w cx.toList x)(D:aP g≤1048576)(q:aS x≤1048576)(hb:pB (kg g r x)=b):
  Qz 236 #[.agg cg,.agg cr,.agg cx] w (.bool b):=by
 have h:=xQ g r x w hg hr B D q;rw[hb] at h;exact h
theorem xL(g:af d)(r:aW d)(w:World)(hg:Rd.rd fg w cg.toList g)(hr:Rd.rd fr w cr.toList r)(hl:aP g≤1048576)(vL:bF r≤1048576):
  Qz 197 #[.agg cg,.agg cr] w (.bool (!pB (kH g r))):=by
 have bR:=Kz hl;have HG:=Kz hg;obtain⟨g0,g1,ag0,kg0,Ma,ag1,kg1,Mc,rfl,rfl,-,Md,Lm,Ls,Me,Lv,Lx⟩:=yt hg;clear hg;have HR:=Kz hr;obtain⟨J,K,O,V,D,I,vO,vR,Mf,vX,wF,Mg,wL,w9,Mh,rfl,rfl,-,Mi,Mj,Mk,LA,LB,xc,LC,LD,x9,LF,LG⟩:=KV hr;have za:=xc.op3;have zb:=x9.op3;clear hr;have yc:J.size+K.size+wtL ByteArray.size O+wtL aU D+wtL aI I≤1048576:=vL;have Ml:D.length≤1048576:=by have:=bT aU D;omega
 have Mm:I.length≤1048576:=by have:=bT aI I;omega
 have HL:=Kz yc;clear hl vL yc;delta Qz;go_in;go_wp2_with fail;generalize hB:(w.alloc (.cells #[.slice ag0 g0.length kg0,.slice ag1 g1.length kg1] 39)).alloc (.cells #[.string J,.string K,.slice vO O.length vR,.bool V,.slice vX D.length wF,.slice wL I.length w9] 128)=B;have gB:Gr w B:=gb hB;have VG:=Kz (show az B w.heap.size 39 [.slice ag0 g0.length kg0,.slice ag1 g1.length kg1] from by rw[←hB];exact kv);have VR:=Kz (show az B (w.heap.size+1) 128 [.string J,.string K,.slice vO O.length vR,.bool V,.slice vX D.length wF,.slice wL I.length w9] from by rw[←hB];exact kv);have yu:=Kz gB;clear hB gB
 go_loopw [5] (fun s5 wr=>∃k:Nat,k≤D.length∧Ky (∀q∈D.take k,kg (g0,g1) (J,K,O,V,D,I) q.2)∧Ky (Gr B wr)∧s5=.int .i64 k) (fun s5 _=>D.length - (intOf s5).toNat)
 case atStart=>exact⟨0,by omega,Kz (by simp),Kz (Gr.refl _),rfl⟩
 case round=>
  obtain⟨k,hk,HA,T,rfl⟩:=hrel
  rename World=>W1
  have ax:=yu.o.trans T.o;have U:=Kz ax
  by_cases Y:k<D.length
  ·have fu:=dI aU D Y
   have gT:=Kz (fun h=>dD Y HA.o h);have fe:=Kz (getElem_mem Y);obtain⟨b,off,rfl,zq⟩:=za k Y;obtain⟨zu,y5,bX,cB,cK,cO,dB,dS,dV,LH,LJ,LK,zx,ay,zy,ze,zf,gV,gX,ik,kr,ku,ky,zl,K3,K4,zH,zL,zO,z8,A7,BM,EB,E5,FX,F4⟩:=KY xc Y ax
   have y7:=Kz (show aS (bX,cB,cK,cO,dB,dS,dV)≤1048576 by
    have h2:=HL.o;rw[←ay.o] at fu;have h3:aU (((zu,y5),(bX,cB,cK,cO,dB,dS,dV)):aX d)=y5.size+aS (bX,cB,cK,cO,dB,dS,dV):=rfl;omega)
   have y8:=Kz (bJ bX cB cK cO dB dS dV gV gX ik kr ku ky zl);clear fu ax ze zf gV gX ik kr ku ky;have k0:(0:Int)≤(k:Int):=by omega
   have k1:(k:Int)<(D.length:Int):=by omega
   have iw:=zI1 k (by omega);have vg:=VG.o.gr T.o;have vr:=VR.o.gr T.o;obtain⟨lq,F5⟩:=vg.c2;obtain⟨oH,F6,F8,Ha,He,HV⟩:=vr.c6;have zg:=blk lq;have zr:=blk oH;clear vg vr
   by_cases hu:kg (g0,g1) (J,K,O,V,D,I) (bX,cB,cK,cO,dB,dS,dV)
   ·have HU:=Kz hu
    have HB:=Kz (bQ hu);clear hu;go_wp2_with fail;refine wg ?_
    repeat(go_big_quiet_step ((go_at_call 236;refine aG (iU (g0,g1) (J,K,O,V,D,I) (bX,cB,cK,cO,dB,dS,dV) true _ (Rd.gr HG.o ?_) (Rd.gr HR.o ?_) (Rd.gr y8.o ?_) bR.o y7.o HB.o)<;>exact U.o.trans gd)))
    refine wq fun nx=>?_
    go_wp2_with fail;exact⟨⟨k+1,by omega,Kz (gT.o (by rw[←ay.o];exact HU.o)),Kz (tg T),by go_num⟩,by simp[intOf];omega⟩
   ·have HU:=Kz hu
    have HB:=Kz (bV hu);have HF:=Kz (bV (show¬kH (g0,g1) (J,K,O,V,D,I) from fun h=>HU.o (by have h1:=h.1 _ fe.o;rw[←ay.o] at h1;exact h1)));clear hu;go_wp2_with fail;refine wg ?_
    repeat(go_big_quiet_step ((go_at_call 236;refine aG (iU (g0,g1) (J,K,O,V,D,I) (bX,cB,cK,cO,dB,dS,dV) false _ (Rd.gr HG.o ?_) (Rd.gr HR.o ?_) (Rd.gr y8.o ?_) bR.o y7.o HB.o)<;>exact U.o.trans gd)))
    refine wq fun nx=>?_
    go_wp2_with fail;go_ret;exact⟨aa (by rw[HF.o];rfl),U.o.trans gd⟩
  ·obtain rfl:k=D.length:=by omega
   rw[take_length] at HA;have HY:=HA;have vr:=VR.o.gr T.o;have HZ:=vr.c 4;have y9:=vr.c 5;clear HA vr;go_wp2_with fail
   go_loopw [6] (fun s5 wr=>∃k:Nat,k≤I.length∧Ky (∀c∈I.take k,kg (g0,g1) (J,K,O,V,D,I) c.2.2.1∧kg (g0,g1) (J,K,O,V,D,I) c.2.2.2)∧Ky (Gr B wr)∧s5=.int .i64 k) (fun s5 _=>I.length - (intOf s5).toNat)
   case atStart=>exact⟨0,by omega,Kz (by simp),T,rfl⟩
   case round=>
    clear HZ y9 T U ax;obtain⟨k,hk,HA,T,rfl⟩:=hrel
    rename World=>W2
    have ax:=yu.o.trans T.o;have U:=Kz ax
    by_cases Y:k<I.length
    ·have fu:=dI aI I Y
     have gT:=Kz (fun h=>dD Y HA.o h);have fe:=Kz (getElem_mem Y);obtain⟨b,off,rfl,zq⟩:=zb k Y;obtain⟨q0,q1,X,ae,ah,ai,aj,ak,au,Z,aZ,bg,bq,bB,bH,bL,LM,LP,LQ,LU,LV,LW,zx,ay,zy,H5,IV,oL,o5,o9,qb,q8,q9,zn,K6,La,sO,uf,uo,uq,uz,ve,zo,Li,Lj,zH,zL,zO,z8,A7,BM,EB,E5,FX,Mo,LX,LY,LZ,L6,L8,L9,F4⟩:=KW x9 Y ax
     have KX:q0.size+q1.size+aS (X,ae,ah,ai,aj,ak,au)+aS (Z,aZ,bg,bq,bB,bH,bL)≤1048576:=by
      have h2:=HL.o;rw[←ay.o] at fu;have h3:aI ((q0,q1,(X,ae,ah,ai,aj,ak,au),(Z,aZ,bg,bq,bB,bH,bL)):aD d)=q0.size+q1.size+aS (X,ae,ah,ai,aj,ak,au)+aS (Z,aZ,bg,bq,bB,bH,bL):=rfl;omega
     have gD:=Kz (show aS (X,ae,ah,ai,aj,ak,au)≤1048576 by omega);have vB:=Kz (show aS (Z,aZ,bg,bq,bB,bH,bL)≤1048576 by omega);have gF:=Kz (bJ X ae ah ai aj ak au oL o5 o9 qb q8 q9 zn);have vD:=Kz (bJ Z aZ bg bq bB bH bL sO uf uo uq uz ve zo);clear fu KX ax H5 IV oL o5 o9 qb q8 q9 sO uf uo uq uz ve;have k0:(0:Int)≤(k:Int):=by omega
     have Mq:(k:Int)<(I.length:Int):=by omega
     have iw:=zI1 k (by omega);have vg:=VG.o.gr T.o;have vr:=VR.o.gr T.o;obtain⟨lq,F5⟩:=vg.c2;obtain⟨oH,F6,F8,Ha,He,HV⟩:=vr.c6;have zg:=blk lq;have zr:=blk oH;clear vg vr
     by_cases hu:kg (g0,g1) (J,K,O,V,D,I) (X,ae,ah,ai,aj,ak,au)
     ·have HU:=Kz hu
      have HB:=Kz (bQ hu);clear hu
      by_cases hu:kg (g0,g1) (J,K,O,V,D,I) (Z,aZ,bg,bq,bB,bH,bL)
      ·have vF:=Kz hu
       have vG:=Kz (bQ hu);clear hu;go_wp2_with fail;refine wg ?_
       repeat(go_big_quiet_step (first|(go_at_call_of 236 X;refine aG (iU (g0,g1) (J,K,O,V,D,I) (X,ae,ah,ai,aj,ak,au) true _ (Rd.gr HG.o ?_) (Rd.gr HR.o ?_) (Rd.gr gF.o ?_) bR.o gD.o HB.o)<;>exact U.o.trans gd)|(go_at_call_of 236 Z;refine aG (iU (g0,g1) (J,K,O,V,D,I) (Z,aZ,bg,bq,bB,bH,bL) true _ (Rd.gr HG.o ?_) (Rd.gr HR.o ?_) (Rd.gr vD.o ?_) bR.o vB.o vG.o)<;>exact U.o.trans gd)))
       refine wq fun nx=>?_
       go_wp2_with fail;exact⟨⟨k+1,by omega,Kz (gT.o (by rw[←ay.o];exact⟨HU.o,vF.o⟩)),Kz (tg T),by go_num⟩,by simp[intOf];omega⟩
      ·have vF:=Kz hu
       have vG:=Kz (bV hu);have HF:=Kz (bV (show¬kH (g0,g1) (J,K,O,V,D,I) from fun h=>vF.o (by have h1:=(h.2 _ fe.o).2;rw[←ay.o] at h1;exact h1)));clear hu;go_wp2_with fail;refine wg ?_
       repeat(go_big_quiet_step (first|(go_at_call_of 236 X;refine aG (iU (g0,g1) (J,K,O,V,D,I) (X,ae,ah,ai,aj,ak,au) true _ (Rd.gr HG.o ?_) (Rd.gr HR.o ?_) (Rd.gr gF.o ?_) bR.o gD.o HB.o)<;>exact U.o.trans gd)|(go_at_call_of 236 Z;refine aG (iU (g0,g1) (J,K,O,V,D,I) (Z,aZ,bg,bq,bB,bH,bL) false _ (Rd.gr HG.o ?_) (Rd.gr HR.o ?_) (Rd.gr vD.o ?_) bR.o vB.o vG.o)<;>exact U.o.trans gd)))
       refine wq fun nx=>?_
       go_wp2_with fail;go_ret;exact⟨aa (by rw[HF.o];rfl),U.o.trans gd⟩
     ·have HU:=Kz hu
      have HB:=Kz (bV hu);have HF:=Kz (bV (show¬kH (g0,g1) (J,K,O,V,D,I) from fun h=>HU.o (by have h1:=(h.2 _ fe.o).1;rw[←ay.o] at h1;exact h1)));clear hu;go_wp2_with fail;refine wg ?_
      repeat(go_big_quiet_step ((go_at_call_of 236 X;refine aG (iU (g0,g1) (J,K,O,V,D,I) (X,ae,ah,ai,aj,ak,au) false _ (Rd.gr HG.o ?_) (Rd.gr HR.o ?_) (Rd.gr gF.o ?_) bR.o gD.o HB.o)<;>exact U.o.trans gd)))
      refine wq fun nx=>?_
      go_wp2_with fail;go_ret;exact⟨aa (by rw[HF.o];rfl),U.o.trans gd⟩
    ·obtain rfl:k=I.length:=by omega
     rw[take_length] at HA;have HF:=Kz (bQ (show kH (g0,g1) (J,K,O,V,D,I) from⟨HY.o,HA.o⟩));have vr:=VR.o.gr T.o;have y9:=vr.c 5;clear vr;go_wp2_with fail;go_ret;exact⟨aa (by rw[HF.o];rfl),U.o⟩
noncomputable def mG(g:af d)(r:aW d)(c:Int):Bool:=if c=3 then !pB (nV g r) else if c=4 then !pB (FL g r) else if c=5 then !pB (qd g r) else !pB (kH g r)
def Du(g:af d):Prop:=∀s,g.1.head?=some s→∀a∈s.2,a.2.2.1≠1
def o7(g:af d):Prop:=(1≤g.1.length∧g.1.length≤4)∧(1≤g.2.length∧g.2.length≤8)∧Jm g∧Du g∧∀r∈g.2,∀c:Int,3≤c→c≤6→mG g r c=false
def Fg(g:af d)(w:World)(e:Ending)(w':World):Prop:=∃c i:Int,e=.returned (.tuple #[.int .i64 c,.int .i64 i])∧(c=0↔o7 g)∧Gr w w'
theorem xY(g:af d)(r:aW d)(c:Int)(w:World)(hg:Rd.rd fg w cg.toList g)(hr:Rd.rd fr w cr.toList r)(hl:aP g≤1048576)(O:bF r≤1048576):
  Qz 155 #[.agg cg,.agg cr,.int .i64 c] w (.bool (mG g r c)):=by
 have h:=Kz hl;have B:=Kz O;have T:=Kz hg;obtain⟨g0,g1,ag0,kg0,bB,ag1,kg1,bH,rfl,rfl,-,bL,ah,ai,bR,aj,ak⟩:=yt hg;clear hg;have U:=Kz hr;obtain⟨D,I,q,V,J,K,bX,cB,cK,cO,dB,dS,dV,fe,fu,rfl,rfl,-,gB,gD,gF,au,ax,gT,ay,aZ,gV,bg,bq⟩:=KV hr;clear hr
 have ae:q.length≤1048576:=by
  have h1:D.size+I.size+wtL ByteArray.size q+wtL aU J+wtL aI K≤1048576:=O;have h2:=bT ByteArray.size q;omega
 clear hl O;obtain⟨R,Y⟩:=nm (mG (g0,g1) (D,I,q,V,J,K) c);rw[←Y];have X:=Kz Y;clear Y;delta Qz;go_in
 go_wp2_with (first|(go_at_call 194;refine(yx (g0,g1) (D,I,q,V,J,K) _ (Rd.gr T.o gd) (Rd.gr U.o gd) h.o ae).mono ?_;rintro e w' ⟨rfl,Z,rfl⟩)|(go_at_call 195;refine(Cj (g0,g1) (D,I,q,V,J,K) _ (Rd.gr T.o gd) (Rd.gr U.o gd) h.o B.o).mono ?_;rintro e w' ⟨rfl,Z,rfl⟩)|(go_at_call 196;refine(Bc (g0,g1) (D,I,q,V,J,K) _ (Rd.gr T.o gd) (Rd.gr U.o gd) h.o B.o).mono ?_;rintro e w' ⟨rfl,Z,rfl⟩)|(go_at_call 197;refine(xL (g0,g1) (D,I,q,V,J,K) _ (Rd.gr T.o gd) (Rd.gr U.o gd) h.o B.o).mono ?_;rintro e w' ⟨rfl,Z,rfl⟩))
 go_ways
 all_goals
  go_ret;refine⟨aa ?_,gd⟩;rw[X.o];unfold mG;clear X T U h B
  first|(simp_all;done)
theorem wX(g:af d)(w:World)(hg:Rd.rd fg w cg.toList g)(hl:aP g≤1048576):
  Calls Tryz.prog 122 #[.agg cg] w (Fg g w):=by
 have bg:=Kz hl;have HG:=Kz hg;obtain⟨g0,g1,ag0,kg0,wL,ag1,kg1,w9,rfl,rfl,-,bq,uq,uz,bB,ve,vB⟩:=yt hg;have fe:=bq.op3;have fu:=bB.op3;clear hg;have bH:wtL bM g0+wtL bF g1≤1048576:=hl;have xc:g0.length≤1048576:=by have:=bT bM g0;omega
 have x9:g1.length≤1048576:=by have:=bT bF g1;omega
 have HL:=Kz bH;clear hl bH
 by_cases I:(1≤(g0.length:Int)∧(g0.length:Int)≤4)∧(1≤(g1.length:Int)∧(g1.length:Int)≤8)
 ·have bL:(decide (1≤(g0.length:Int))&&decide ((g0.length:Int)≤4))=true:=by rw[decide_eq_true I.1.1,decide_eq_true I.1.2];rfl
  have bR:(decide (1≤(g1.length:Int))&&decide ((g1.length:Int)≤8))=true:=by rw[decide_eq_true I.2.1,decide_eq_true I.2.2];rfl
  have U:=Kz I;have h00:0<g0.length:=by omega
  have D:=h00;clear I;go_in
  go_wp2_with (first|(go_at_call_of 96 g0;refine(fI _ _ _ _).mono ?_;rintro e w' ⟨rfl,rfl⟩;rw[bL])|(go_at_call_of 96 g1;refine(fI _ _ _ _).mono ?_;rintro e w' ⟨rfl,rfl⟩;rw[bR]))
  refine(C8 _ _ (g0,g1) _ (Rd.gr HG.o gd) bg.o).mono ?_;rintro e w' ⟨bi,rfl,yc,yu,V,x1,rfl⟩;have ae:=Kz V;clear V bL bR
  by_cases ah:0≤bi
  ·go_wp2_with fail
   exact bodyPost_ret (v:=.tuple #[.int .i64 1,.int .i64 bi]) (by simp[results,Tryz.results122,go_sem]) rfl ⟨1,bi,rfl,⟨fun h=>absurd h (by decide),fun h=>by have:=ae.o.2 h.2.2.1;omega⟩,gd⟩
  ·have gF:=Kz (ae.o.1 (by omega))
   have y5:¬(0≤bi):=ah;clear ae ah;go_wp2_with fail;generalize hB:((w.alloc (.cells #[.slice ag0 g0.length kg0,.slice ag1 g1.length kg1] 39)).ext x1)=B;have gB:Gr w B:=gb hB;obtain⟨ai,aj⟩:=kb2 hB (w.heap.size) (.slice ag0 g0.length kg0) (.slice ag1 g1.length kg1);clear hB;obtain⟨b,off,rfl,V⟩:=fe 0 D;obtain⟨q0,q1,y7,y8,y9,za,ak,gT,gV,au,vD,vF,gX,bX,zb⟩:=K9 bq D gB;have gD:=au.op3;simp only[Nat.zero_mul,Nat.add_zero,Nat.zero_add] at gX bX
   have ax:q1.length≤1048576:=by
    have h1:=dI bM g0 h00;have h2:=HL.o;rw[←ak.o] at h1;have h3:bM ((q0,q1):bC)=q0.size+wtL bI q1:=rfl;have h4:=bT bI q1;omega
   have ik:=Kz au;have kr:=Kz ax;have cB:=Kz (show(q0,q1)=g0[0]'h00 from ak.o);clear D ax ak gT gV au;have ax:q1.length≤1048576:=kr.o
   go_loopw [5] (fun s5 wr=>∃k:Nat,k≤q1.length∧Ky (∀a∈q1.take k,a.2.2.1≠1)∧Ky (Gr B wr)∧s5=.int .i64 k) (fun s5 _=>q1.length - (intOf s5).toNat)
   case atStart=>exact⟨0,by omega,Kz (by simp),Kz (Gr.refl _),rfl⟩
   case round=>
    obtain⟨k,hk,X,q,rfl⟩:=hrel
    rename World=>W1
    have J:=gB.trans q.o;have K:=Kz J;have Y:=ai _ q.o;have y1:=aj _ q.o;have zy:=blk Y;have ku:=q.o.keep bX
    by_cases D:k<q1.length
    ·have ay:=Kz (fun h=>dD D X.o h)
     have Z:=Kz (getElem_mem D);obtain⟨b,off,rfl,V⟩:=gD k D;obtain⟨p0,p1,p2,p3,T,cK,cO,dB,dS,ky,lq,oH,oL,o5⟩:=K5 ik.o D J;have k0:(0:Int)≤(k:Int):=by omega
     have k1:(k:Int)<(q1.length:Int):=by omega
     have iw:=zI1 k (by omega);clear J
     by_cases hm:p2=1
     ·have o9:(p2==1)=true:=by simp[hm]
      have HM:=Kz hm;clear hm;go_wp2_with fail
      exact bodyPost_ret (v:=.tuple #[.int .i64 2,.int .i64 0]) (by simp[results,Tryz.results122,go_sem]) rfl ⟨2,0,rfl,⟨fun h=>absurd h (by decide),fun h=>by
       have h1:=h.2.2.2.1 (q0,q1) (by rw[cB.o];show g0.head?=_;rw[List.head?_eq_getElem?];exact List.getElem?_eq_getElem h00) _ Z.o;rw[←T.o] at h1;exact absurd HM.o h1⟩,K.o.trans gd⟩
     ·have o9:(p2==1)=false:=by simpa using hm
      have HM:=Kz hm;clear hm;go_wp2_with fail;exact⟨⟨k+1,by omega,Kz (ay.o (by rw[←T.o];exact HM.o)),Kz (tg q),by go_num⟩,by simp[intOf];omega⟩
    ·obtain rfl:k=q1.length:=by omega
     rw[take_length] at X
     have qb:=Kz (show Du (g0,g1) from fun s hs a ha=>by
      have h1:g0.head?=some s:=hs;rw[List.head?_eq_getElem?,List.getElem?_eq_getElem h00] at h1;injection h1 with h1;rw[←h1,←cB.o] at ha;exact X.o a ha)
     clear X;go_wp2_with fail;clear ku Y y1 zy J K
     go_loopw [6] (fun s6 wr=>∃c:Int,3≤c∧c≤7∧Ky (∀r∈g1,∀O:Int,3≤O→O<c→mG (g0,g1) r O=false)∧Ky (Gr B wr)∧s6=.int .i64 c) (fun s6 _=>7 - (intOf s6).toNat)
     case atStart=>exact⟨3,by omega,by omega,Kz (fun r hr O h1 h2=>by omega),q,rfl⟩
     case round=>
      clear q;obtain⟨c,q8,ze,dV,q,rfl⟩:=hrel
      rename World=>W2
      have Y:=ai _ q.o;have y1:=aj _ q.o;have zy:=blk Y;have zf:IntKind.i64.wrap (c+1)=c+1:=IntWalk.i64_in _ (by omega)
      by_cases hc:c≤6
      ·go_wp2_with fail
       go_loopw [7] (fun s7 wr=>∃k:Nat,k≤g1.length∧Ky (∀r∈g1.take k,mG (g0,g1) r c=false)∧Ky (Gr B wr)∧s7=.int .i64 k) (fun s7 _=>g1.length - (intOf s7).toNat)
       case atStart=>exact⟨0,by omega,Kz (by simp),q,rfl⟩
       case round=>
        clear Y y1 zy q;obtain⟨k,hk,X,q,rfl⟩:=hrel
        rename World=>W3
        have J:=gB.trans q.o;have K:=Kz J;have Y:=ai _ q.o;have y1:=aj _ q.o;have zy:=blk Y
        by_cases D:k<g1.length
        ·have ay:=Kz (fun h=>dD D X.o h)
         have Z:=Kz (getElem_mem D);have q9:=dI bF g1 D;have sO:=Kz (show bF g1[k]≤1048576 by have:=HL.o;omega);clear q9;obtain⟨b,off,rfl,V⟩:=fu k D;obtain⟨p0,p1,p2,p3,p4,p5,zg,zl,zn,zo,zq,zu,zx,zH,zL,zO,T,cK,cO,dB,dS,vG,vL,uf,vO,vR,uo,vX,wF,ky,lq,oH,oL,z8,A7,o5⟩:=Lf bB D J;have k0:(0:Int)≤(k:Int):=by omega
         have k1:(k:Int)<(g1.length:Int):=by omega
         have iw:=zI1 k (by omega);obtain⟨M,hM⟩:=nm (mG (g0,g1) (p0,p1,p2,p3,p4,p5) c);have aZ:=Kz hM;clear J hM cO dB dS uf uo;go_wp2_with fail;refine wg ?_
         repeat(go_big_quiet_step ((go_at_call 155;refine aG (xY (g0,g1) (p0,p1,p2,p3,p4,p5) c _ (Rd.gr HG.o ?_) (Rd.gr cK.o ?_) bg.o (by rw[T.o];exact sO.o))<;>exact K.o.trans gd)))
         refine wq fun nx=>?_
         rw[←aZ.o]
         cases M with
         |false=>
          go_wp2_with fail;exact⟨⟨k+1,by omega,Kz (ay.o (by rw[←T.o];exact aZ.o.symm)),Kz (tg q),by go_num⟩,by simp[intOf];omega⟩
         |true=>
          go_wp2_with fail
          exact bodyPost_ret (v:=.tuple #[.int .i64 c,.int .i64 k]) (by simp[results,Tryz.results122,go_sem]) rfl ⟨c,k,rfl,⟨fun h=>by omega,fun h=>by
           have h1:=h.2.2.2.2 _ Z.o c q8 hc;rw[←T.o,←aZ.o] at h1
           cases h1⟩,K.o.trans gd⟩
        ·obtain rfl:k=g1.length:=by omega
         rw[take_length] at X;go_wp2_with fail
         exact⟨⟨c+1,by omega,by omega,Kz (fun r hr O h1 h2=>by
          by_cases h3:O<c
          ·exact dV.o r hr O h1 h3
          ·obtain rfl:O=c:=by omega
           exact X.o r hr),q,rfl⟩,by simp[intOf];omega⟩
      ·have HF:=Kz (show o7 (g0,g1) from⟨by have h1:=U.o.1;show 1≤g0.length∧g0.length≤4;omega,by have h1:=U.o.2;show 1≤g1.length∧g1.length≤8;omega,gF.o,qb.o,fun r hr O h1 h2=>dV.o r hr O h1 (by omega)⟩)
       have K:=Kz (gB.trans q.o);go_wp2_with fail;exact bodyPost_ret (v:=.tuple #[.int .i64 0,.int .i64 0]) (by simp[results,Tryz.results122,go_sem]) rfl ⟨0,0,rfl,⟨fun _=>HF.o,fun _=>rfl⟩,K.o⟩
 ·have U:=Kz I
  have HN:=Kz (show¬o7 (g0,g1) from fun h=>U.o ⟨by have h1:1≤g0.length∧g0.length≤4:=h.1;omega,by have h1:1≤g1.length∧g1.length≤8:=h.2.1;omega⟩);clear I;go_in
  go_wp2_with (first|(go_at_call_of 96 g0;refine(fI _ _ _ _).mono ?_;rintro e w' ⟨rfl,rfl⟩)|(go_at_call_of 96 g1;refine(fI _ _ _ _).mono ?_;rintro e w' ⟨rfl,rfl⟩))
  go_ways
  all_goals first
   |(exfalso;refine U.o ⟨?_,?_⟩<;>first|assumption|(simp_all;done)|(simp_all;omega))
   |(exact bodyPost_ret (v:=.tuple #[.int .i64 1,.int .i64 0]) (by simp[results,Tryz.results122,go_sem]) rfl ⟨1,0,rfl,⟨fun h=>absurd h (by decide),fun h=>absurd h HN.o⟩,gd⟩)
  
end Go.Proofs.YtleafadpfeibfaaGreat
