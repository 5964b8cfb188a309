/- Contracts and laws towards ReadsOf, part 34 of 54. No condition. -/
import Derived.Test.YtleafadpfeibfaaGreatRx32
import Derived.Test.YtleafadpfeibfaaGreatRx33
set_option maxHeartbeats 32000000
set_option maxRecDepth 10000
set_option linter.unusedVariables false
set_option linter.unusedSimpArgs false
namespace Go.Proofs.YtleafadpfeibfaaGreat
open Go.RowKit
variable{d:Nat}
theorem oJ{n:Nat}{fg fr fx:List Nat}{cg cr cx:Array Value}(g:af d)(r:aW d)(x:aA n)(v:Int)(w:World)(hg:Rd.rd fg w cg.toList g)(hr:Rd.rd fr w cr.toList r)(q:Rd.rd fx w cx.toList x)(B:aP g≤1048576)(hv:dZ g r (n+1) x=v):
  Qz 156 #[.agg cg,.agg cr,.agg cx] w (.int .i64 v):=by
 have h:=wC (g:=g) (r:=r) B (n+1) fg fr fx cg cr cx x w hg hr q;rw[hv] at h;exact h
theorem yU{fg fr:List Nat}{cg cr:Array Value}(g:af d)(r:aW d)(w:World)(hg:Rd.rd fg w cg.toList g)(hr:Rd.rd fr w cr.toList r)(hl:aP g≤1048576)(F5:bF r≤1048576)(F6:∀q∈r.2.2.2.2.1,0≤q.1.1∧q.1.1≤(r.2.2.1.length:Int)):
  Qz 123 #[.agg cg,.agg cr] w (.bool (pB (kW g r))):=by
 have bL:=Kz hl;have LM:=Kz F6;have HG:=Kz hg;obtain⟨g0,g1,ag0,kg0,MF,ag1,kg1,MG,rfl,rfl,-,MH,Mj,Mk,MI,Ml,Mm⟩:=yt hg;clear hg;have HR:=Kz hr;obtain⟨U,X,O,r3,J,K,F8,Ha,MJ,He,HY,MK,HZ,H5,ML,rfl,rfl,-,MM,MN,MO,Mo,Mq,IV,Mr,Ms,KX,Mt,Mv⟩:=KV hr;have Lv:=IV.op3;have Lx:=KX.op3;clear hr;have LP:U.size+X.size+wtL ByteArray.size O+wtL aU J+wtL aI K≤1048576:=F5;have MP:J.length≤1048576:=by have:=bT aU J;omega
 have MQ:K.length≤1048576:=by have:=bT aI K;omega
 clear hl F5 LP F6;delta Qz;go_in;go_wp2_with fail;generalize hB:(w.alloc (.cells #[.slice ag0 g0.length kg0,.slice ag1 g1.length kg1] 39)).alloc (.cells #[.string U,.string X,.slice F8 O.length Ha,.bool r3,.slice He J.length HY,.slice HZ K.length H5] 128)=B;have gB:Gr w B:=gb hB;have VG:=Kz (show az B w.heap.size 39 [.slice ag0 g0.length kg0,.slice ag1 g1.length kg1] from by rw[←hB];exact kv);have VR:=Kz (show az B (w.heap.size+1) 128 [.string U,.string X,.slice F8 O.length Ha,.bool r3,.slice He J.length HY,.slice HZ K.length H5] from by rw[←hB];exact kv);have K3:=Kz gB;clear hB gB
 go_loopw [5] (fun s5 wr=>∃k:Nat,k≤J.length∧Ky (∀q∈J.take k,dZ (g0,g1) (U,X,O,r3,J,K) (d+1) q.2=pO (jf (g0,g1) (U,X,O,r3,J,K) q.1))∧Ky (Gr B wr)∧s5=.int .i64 k) (fun s5 _=>J.length - (intOf s5).toNat)
 case atStart=>exact⟨0,by omega,Kz (by simp),Kz (Gr.refl _),rfl⟩
 case round=>
  obtain⟨k,hk,HA,ah,rfl⟩:=hrel
  rename World=>W1
  have ak:=K3.o.trans ah.o;have kr:=Kz ak;have vg:=VG.o.gr ah.o;have vr:=VR.o.gr ah.o;obtain⟨Y,au⟩:=vg.c2;obtain⟨Z,ax,ay,aZ,bg,bq⟩:=vr.c6;have zg:=blk Y;have zr:=blk Z;clear vg vr
  by_cases aj:k<J.length
  ·have uo:=Kz (fun h=>dD aj HA.o h)
   have ik:=Kz (List.getElem_mem aj);obtain⟨b,off,rfl,ku⟩:=Lv k aj;obtain⟨bR,ky,lq,oH,oL,o5,o9,qb,q8,uq,uz,Mw,LQ,bX,LU,LA,LB,ve,vB,vD,vF,vG,vL,vO,Md,Me,vR,vX,wF,wL,w9,xc,x9,yc,yu,y5⟩:=KY IV aj ak;have y7:0≤bR∧bR≤(O.length:Int):=by have h1:=LM.o _ ik.o;rw[←bX.o] at h1;exact h1
   have LV:=Kz (bJ lq oH oL o5 o9 qb q8 ve vB vD vF vG vL vO);obtain⟨S,hS⟩:=nm (j6 (U,X,O,r3,J,K) bR);obtain⟨V,hV⟩:=nm (xD (g0,g1) S ky);obtain⟨T,hT⟩:=nm (dZ (g0,g1) (U,X,O,r3,J,K) (d+1) (lq,oH,oL,o5,o9,qb,q8));have HS:=Kz hS;have HV:=Kz hV;have HT:=Kz hT;have K4:=Kz (show pO (jf (g0,g1) (U,X,O,r3,J,K) (bR,ky))=V by rw[rG y7,hV,hS];rfl);have k0:(0:Int)≤(k:Int):=by omega
   have k1:(k:Int)<(J.length:Int):=by omega
   have iw:=zI1 k (by omega);clear ak LA LB ve vB vD vF vG vL vO y7 hS hV hT;go_wp2_with fail;generalize hC:(W1.alloc (.cells #[.int .i64 bR,.string ky,.int .i64 lq,.int .i64 oH,.int .i64 oL,.int .i64 o5,.string o9,.string qb,.slice uq q8.length uz] 183))=C;have gC:Gr W1 C:=gb hC;have VC:=Kz (show az C W1.heap.size 183 [.int .i64 bR,.string ky,.int .i64 lq,.int .i64 oH,.int .i64 oL,.int .i64 o5,.string o9,.string qb,.slice uq q8.length uz] from by rw[←hC];exact az.new rfl);have I:=Kz gC;clear hC gC;replace Y:=I.o.keep Y;replace au:=I.o.keep au;replace Z:=I.o.keep Z;replace ax:=I.o.keep ax;replace ay:=I.o.keep ay;replace aZ:=I.o.keep aZ;replace bg:=I.o.keep bg;replace bq:=I.o.keep bq;replace zg:=blk Y;replace zr:=blk Z;obtain⟨c0,c1,c2,c3,c4,c5,c6,c7,c8⟩:=VC.o.c9;have zc:=blk c0;have ai:=Kz (kr.o.trans I.o);clear vR vX wF wL w9 xc x9 yc yu y5;refine wg ?_
   iterate 16 (go_big_quiet_step (first|(go_at_call 158;refine aG (oP (U,X,O,r3,J,K) bR S _ (Rd.gr HR.o ?_) HS.o.symm)<;>exact ai.o.trans gd)|(go_at_call 157;refine aG (zY (g0,g1) S ky V _ (Rd.gr HG.o ?_) bL.o HV.o.symm)<;>exact ai.o.trans gd)|(go_at_call 156;refine aG (oJ (g0,g1) (U,X,O,r3,J,K) (lq,oH,oL,o5,o9,qb,q8) T _ (Rd.gr HG.o ?_) (Rd.gr HR.o ?_) (Rd.gr LV.o ?_) bL.o HT.o.symm)<;>exact ai.o.trans gd)))
   refine wq fun nx=>?_
   by_cases he:T=V
   ·have heq:(T !=V)=false:=by simp[he]
    have y8:=Kz he;clear he;go_wp2_with fail;exact⟨⟨k+1,by omega,Kz (uo.o (by rw[←bX.o];exact(HT.o.symm.trans y8.o).trans K4.o.symm)),Kz (ah.o.trans (tg I)),by go_num⟩,by simp[intOf];omega⟩
   ·have heq:(T !=V)=true:=by simpa using he
    have y8:=Kz he;clear he;go_wp2_with fail;go_ret;exact⟨aa (bV fun h=>y8.o (by have h1:=h.1 _ ik.o;rw[←bX.o] at h1;exact(HT.o.trans h1).trans K4.o)).symm,ai.o.trans gd⟩
  ·obtain rfl:k=J.length:=by omega
   rw[List.take_length] at HA;have LW:=HA;clear HA;go_wp2_with fail;clear Y au Z ax ay aZ bg bq zg zr
   go_loopw [7] (fun s5 wr=>∃k:Nat,k≤K.length∧Ky (∀c∈K.take k,dZ (g0,g1) (U,X,O,r3,J,K) (d+1) c.2.2.1=4∧dZ (g0,g1) (U,X,O,r3,J,K) (d+1) c.2.2.2=2∧((ek ((bW g0 c.1).getD dE).2 c.2.1).getD dR).2.2.1=3)∧Ky (Gr B wr)∧s5=.int .i64 k) (fun s5 _=>K.length - (intOf s5).toNat)
   case atStart=>exact⟨0,by omega,Kz (by simp),ah,rfl⟩
   case round=>
    clear ah kr ak;obtain⟨k,hk,HA,ah,rfl⟩:=hrel
    rename World=>W2
    have ak:=K3.o.trans ah.o;have kr:=Kz ak;have vg:=VG.o.gr ah.o;have vr:=VR.o.gr ah.o;obtain⟨Y,au⟩:=vg.c2;obtain⟨Z,ax,ay,aZ,bg,bq⟩:=vr.c6;have zg:=blk Y;have zr:=blk Z;clear vg vr
    by_cases aj:k<K.length
    ·have uo:=Kz (fun h=>dD aj HA.o h)
     have ik:=Kz (List.getElem_mem aj);obtain⟨b,off,rfl,ku⟩:=Lx k aj;obtain⟨q0,q1,bB,cB,cK,cO,dB,dS,dV,bH,fe,fu,gF,gT,gV,gX,y9,za,Mx,zb,ze,MB,LQ,bX,LU,LX,LY,zf,zl,zn,zo,zq,zu,zx,Mf,Mg,zy,zH,zL,zO,z8,A7,BM,Mh,Mi,vR,vX,wF,wL,w9,xc,x9,yc,yu,LZ,LC,LD,LF,LG,LH,LJ,y5⟩:=KW KX aj ak;have EB:=Kz (bJ bB cB cK cO dB dS dV zf zl zn zo zq zu zx);have E5:=Kz (bJ bH fe fu gF gT gV gX zy zH zL zO z8 A7 BM);obtain⟨T2,K6⟩:=nm (dZ (g0,g1) (U,X,O,r3,J,K) (d+1) (bB,cB,cK,cO,dB,dS,dV));obtain⟨T3,La⟩:=nm (dZ (g0,g1) (U,X,O,r3,J,K) (d+1) (bH,fe,fu,gF,gT,gV,gX));have sO:=Kz K6;have uf:=Kz La;have k0:(0:Int)≤(k:Int):=by omega
     have k1:(k:Int)<(K.length:Int):=by omega
     have iw:=zI1 k (by omega);clear ak LX LY zf zl zn zo zq zu zx zy zH zL zO z8 A7 BM K6 La;go_wp2_with fail;generalize hC:(W2.alloc (.cells #[.string q0,.string q1,.int .i64 bB,.int .i64 cB,.int .i64 cK,.int .i64 cO,.string dB,.string dS,.slice y9 dV.length za,.int .i64 bH,.int .i64 fe,.int .i64 fu,.int .i64 gF,.string gT,.string gV,.slice zb gX.length ze] 186))=C;have gC:Gr W2 C:=gb hC;have VC:=Kz (show az C W2.heap.size 186 [.string q0,.string q1,.int .i64 bB,.int .i64 cB,.int .i64 cK,.int .i64 cO,.string dB,.string dS,.slice y9 dV.length za,.int .i64 bH,.int .i64 fe,.int .i64 fu,.int .i64 gF,.string gT,.string gV,.slice zb gX.length ze] from by rw[←hC];exact az.new rfl);have I:=Kz gC;clear hC gC;replace Y:=I.o.keep Y;replace au:=I.o.keep au;replace Z:=I.o.keep Z;replace ax:=I.o.keep ax;replace ay:=I.o.keep ay;replace aZ:=I.o.keep aZ;replace bg:=I.o.keep bg;replace bq:=I.o.keep bq;replace zg:=blk Y;replace zr:=blk Z;have ai:=Kz (kr.o.trans I.o);clear vR vX wF wL w9 xc x9 yc yu LZ LC LD LF LG LH LJ y5;refine(dX (g0,g1) q0 _ (Rd.gr HG.o ai.o) bL.o).mono ?_;rintro e w' ⟨es,fq,rfl,hr,-,x1,rfl⟩;have gD:Gr C (C.ext x1):=gd;generalize C.ext x1=D at hr gD ⊢;obtain⟨s0,s1,Li,Lj,MR,FX,rfl,-,MS,MU,MC,ME⟩:=Lg (x:=(bW g0 q0).getD dE) hr;have L6:=Kz FX;have L8:=Lt FX hr;clear hr FX;obtain⟨bb,ku⟩:∃b:Bool,b=(bW g0 q0).isSome:=⟨_,rfl⟩;rw[←ku];have MV:=Kz ku;clear ku;have vc:=VC.o.gr gD;have c1:=vc.c 1;have zc:=blk c1;have L9:=Kz gD;clear vc gD;go_wp2_with fail;refine(jC (s0,s1) q1 _ (Rd.gr L8.o gd)).mono ?_;rintro e w' ⟨es,fq,rfl,hr,-,x2,rfl⟩;have gE:Gr D ((D.alloc (.cells #[.string s0,.slice Li s1.length Lj] 123)).ext x2):=gd;generalize(D.alloc (.cells #[.string s0,.slice Li s1.length Lj] 123)).ext x2=E at hr gE ⊢;obtain⟨t0,t1,t2,t3,F4,rfl,-,MW,MX,MZ⟩:=Ld (x:=(ek s1 q1).getD dR) hr;have Lm:=Kz F4;have M0:=Lt F4 hr;clear hr F4;obtain⟨cc,q9⟩:∃b:Bool,b=(ek s1 q1).isSome:=⟨_,rfl⟩;rw[←q9];have Ma:=Kz q9;clear q9;have Ls:=Kz (show((ek ((bW g0 q0).getD dE).2 q1).getD dR).2.2.1=t2 by rw[←L6.o];show((ek s1 q1).getD dR).2.2.1=t2;rw[←Lm.o])
     have Mc:=Kz (show cc=false→t2=0 from fun h=>by
      have h1:=Ma.o;rw[h] at h1;have h2:=Lm.o
      cases hl:ek s1 q1 with
      |none=>rw[hl] at h2;exact congrArg (fun a:aQ=>a.2.2.1) h2
      |some a=>rw[hl] at h1;cases h1)
     have I:=Kz (L9.o.trans gE);have ae:=Kz (ai.o.trans I.o);have LK:=Kz (ah.o.trans (show Gr W2 E from(by assumption:Ky (Gr W2 C)).o.trans I.o));clear c1 zc gE;replace Y:=I.o.keep Y;replace au:=I.o.keep au;replace Z:=I.o.keep Z;replace ax:=I.o.keep ax;replace ay:=I.o.keep ay;replace aZ:=I.o.keep aZ;replace bg:=I.o.keep bg;replace bq:=I.o.keep bq;replace zg:=blk Y;replace zr:=blk Z;have vc:=VC.o.gr I.o;have c2:=vc.c 2;have c3:=vc.c 3;have c4:=vc.c 4;have c5:=vc.c 5;have c6:=vc.c 6;have c7:=vc.c 7;have c8:=vc.c 8;have c9:=vc.c 9;have c10:=vc.c 10;have c11:=vc.c 11;have c12:=vc.c 12;have c13:=vc.c 13;have c14:=vc.c 14;have c15:=vc.c 15;have zc:=blk c2;clear vc
     by_cases hp:cc=true∧t2=3∧T2=4∧T3=2
     ·obtain⟨rfl,rfl,rfl,rfl⟩:=hp
      go_wp2_with (first|(go_at_call_of 156 bB;refine(oJ (g0,g1) (U,X,O,r3,J,K) (bB,cB,cK,cO,dB,dS,dV) 4 _ (Rd.gr HG.o (tg ae)) (Rd.gr HR.o (tg ae)) (Rd.gr EB.o (tg ae)) bL.o sO.o.symm).mono ?_;rintro e w' ⟨rfl,x5,rfl⟩)|(go_at_call_of 156 bH;refine(oJ (g0,g1) (U,X,O,r3,J,K) (bH,fe,fu,gF,gT,gV,gX) 2 _ (Rd.gr HG.o (tg ae)) (Rd.gr HR.o (tg ae)) (Rd.gr E5.o (tg ae)) bL.o uf.o.symm).mono ?_;rintro e w' ⟨rfl,x6,rfl⟩))
      exact⟨⟨k+1,by omega,Kz (uo.o (by rw[←bX.o];exact⟨sO.o.symm,uf.o.symm,Ls.o⟩)),Kz (tg LK),by go_num⟩,by simp[intOf];omega⟩
     ·have HP:=Kz hp
      have HF:=Kz (bV (show¬kW (g0,g1) (U,X,O,r3,J,K) from fun h=>HP.o (by
       have h1:=h.2 _ ik.o;rw[←bX.o] at h1;have h3:t2=3:=Ls.o.symm.trans h1.2.2;refine⟨?_,h3,sO.o.trans h1.1,uf.o.trans h1.2.1⟩
       cases q9:cc with
       |true=>rfl
       |false=>have:=Mc.o q9;omega)))
      clear hp
      go_wp2_with (first|(go_at_call_of 156 bB;refine(oJ (g0,g1) (U,X,O,r3,J,K) (bB,cB,cK,cO,dB,dS,dV) T2 _ (Rd.gr HG.o (tg ae)) (Rd.gr HR.o (tg ae)) (Rd.gr EB.o (tg ae)) bL.o sO.o.symm).mono ?_;rintro e w' ⟨rfl,x5,rfl⟩)|(go_at_call_of 156 bH;refine(oJ (g0,g1) (U,X,O,r3,J,K) (bH,fe,fu,gF,gT,gV,gX) T3 _ (Rd.gr HG.o (tg ae)) (Rd.gr HR.o (tg ae)) (Rd.gr E5.o (tg ae)) bL.o uf.o.symm).mono ?_;rintro e w' ⟨rfl,x6,rfl⟩))
      go_ways
      all_goals first
       |(go_ret;exact⟨aa HF.o.symm,ae.o.trans gd⟩)
       |(exfalso;refine HP.o ⟨?_,?_,?_,?_⟩<;>first|assumption|(simp_all;done)|(simp_all;omega))
      
    ·obtain rfl:k=K.length:=by omega
     rw[List.take_length] at HA;go_wp2_with fail;go_ret;exact⟨aa (bQ (show kW (g0,g1) (U,X,O,r3,J,K) from⟨LW.o,HA.o⟩)).symm,kr.o⟩
def xC(g:af d)(n:ByteArray):Int:=if atS g.1 n<0 then 0 else(hts g g.1.length).getD (atS g.1 n).toNat 0
theorem AO{fg:List Nat}{cg:Array Value}(g:af d)(n:ByteArray)(w:World)(hg:Rd.rd fg w cg.toList g)(hn:0<g.1.length)(O:g.1.length≤1000):
  Qz 160 #[.agg cg,.string n] w (.int .i64 (xC g n)):=by
 obtain⟨T,h⟩:=nm (xC g n);rw[←h];have B:=Kz h;obtain⟨I,J⟩:=nm (atS g.1 n);have K:=Kz J;have U:=G8 g.1 n;have V:=qU (fun s:bC=>decide (s.1=n)) g.1;have V:-1≤I:=by rw[J];exact V
 rw[←J] at U;have HT:=Kz (Ay g g.1.length (Nat.le_refl _));have HN:=Kz hn;have Z:=Kz O;clear h J hn O;have X:=Kz hg;obtain⟨g0,g1,ag0,kg0,au,ag1,kg1,ax,rfl,rfl,-,ay,ah,ai,aZ,aj,ak⟩:=yt hg;clear hg;simp only at U
 by_cases q:I<0
 ·have Y:=Kz (show T=0 by rw[B.o];unfold xC;rw[←K.o,if_pos q])
  delta Qz;go_in;go_wp2_with fail;refine(sQ (g0,g1) n _ (Rd.gr X.o gd)).mono ?_;rintro e w' ⟨rfl,x1,rfl⟩;rw[←K.o];go_wp2_with fail;go_ret;exact⟨by rw[Y.o];rfl,gd⟩
 ·obtain⟨k,hk⟩:∃k:Nat,I=k:=⟨I.toNat,by omega⟩
  have Y:=Kz (show T=(hts (g0,g1) g0.length).getD k 0 by rw[B.o];unfold xC;rw[←K.o,if_neg q,hk];rfl);subst hk;have k0:(0:Int)≤(k:Int):=by omega
  have bg:k<g0.length:=by omega
  clear q;delta Qz;go_in;go_wp2_with fail;refine(sQ (g0,g1) n _ (Rd.gr X.o gd)).mono ?_;rintro e w' ⟨rfl,x1,rfl⟩;rw[←K.o];go_wp2_with fail;refine(yg (g0,g1) _ (Rd.gr X.o gd) HN.o Z.o).mono ?_;rintro e w' ⟨v,fq,rfl,hs,-,x2,rfl⟩;obtain⟨H,hH⟩:=nm (hts (g0,g1) g0.length);have ae:H.length=g0.length:=by rw[hH];exact HT.o.1
  change SlR fq _ v (hts (g0,g1) g0.length) at hs
  rw[←hH] at hs;have HH:=Kz hH;obtain⟨a,c,rfl,o1,o2,o3⟩:=hs.open;have D:k<H.length:=by omega
  have k1:(k:Int)<(H.length:Int):=by omega
  obtain⟨b,off,rfl,hb⟩:=o3 k D;have c1:=(hs.fQ D).1;clear hH ae;go_wp2_with fail;go_ret;exact⟨by rw[Y.o,←HH.o,List.getD_eq_getElem?_getD,List.getElem?_eq_getElem D];rfl,gd⟩
theorem Bz{fg:List Nat}{cg:Array Value}(g:af d)(n:ByteArray)(w:World)(hg:Rd.rd fg w cg.toList g)(hn:0<g.1.length)(h:g.1.length≤1000):
  Qz 124 #[.agg cg,.string n] w (.bool (decide (0<xC g n))):=by
 obtain⟨M,q⟩:=nm (xC g n);rw[←q];have D:=Kz q;have I:=Kz hn;have B:=Kz h;clear q hn h;have J:=Kz hg;obtain⟨g0,g1,ag0,kg0,V,ag1,kg1,X,rfl,rfl,-,Y,K,O,Z,T,U⟩:=yt hg;clear hg;delta Qz;go_in;go_wp2_with fail;refine(AO (g0,g1) n _ (Rd.gr J.o gd) I.o B.o).mono ?_;rintro e w' ⟨rfl,x1,rfl⟩;rw[←D.o];go_wp2_with fail;go_ret;exact⟨rfl,gd⟩
def Ga(g:af d):Prop:=∀s∈g.1,0<xC g s.1
def jI(g:af d):Prop:=o7 g∧(∀r∈g.2,kW g r)∧Ga g
def GoodAt(g:af d)(w:World)(e:Ending)(w':World):Prop:=∃c i:Int,e=.returned (.tuple #[.int .i64 c,.int .i64 i])∧(c=0↔jI g)∧Gr w w'
theorem yG{fg:List Nat}{cg:Array Value}(g:af d)(w:World)(hg:Rd.rd fg w cg.toList g)(hl:aP g≤1048576):
  Calls Tryz.prog 93 #[.agg cg] w (GoodAt g w):=by
 have ah:=Kz hl;have HG:=Kz hg;obtain⟨g0,g1,ag0,kg0,q9,ag1,kg1,sO,rfl,rfl,-,ai,gV,gX,aj,ik,kr⟩:=yt hg;have bq:=ai.op3;have bB:=aj.op3;clear hg;have ak:wtL bM g0+wtL bF g1≤1048576:=hl;have uf:g0.length≤1048576:=by have:=bT bM g0;omega
 have uo:g1.length≤1048576:=by have:=bT bF g1;omega
 have HL:=Kz ak;clear hl ak;go_in;go_wp2_with fail;refine(wX (g0,g1) _ (Rd.gr HG.o gd) ah.o).mono ?_;rintro e w' ⟨c,ci,rfl,hc,x1,rfl⟩;have HC:=Kz hc;clear hc
 by_cases Z:c=0
 ·subst Z
  have X:=Kz (HC.o.1 rfl);clear HC;go_wp2_with fail;generalize hB:((w.alloc (.cells #[.slice ag0 g0.length kg0,.slice ag1 g1.length kg1] 39)).ext x1)=B;have gB:Gr w B:=gb hB;obtain⟨au,ax⟩:=kb2 hB (w.heap.size) (.slice ag0 g0.length kg0) (.slice ag1 g1.length kg1);clear hB;have ay:0<g0.length:=by have h1:1≤g0.length:=X.o.1.1;omega
  have aZ:g0.length≤1000:=by have h1:g0.length≤4:=X.o.1.2;omega
  have bH:=Kz ay;have bL:=Kz aZ;clear ay aZ
  go_loopw [6] (fun V wr=>∃k:Nat,k≤g1.length∧Ky (∀r∈g1.take k,kW (g0,g1) r)∧Ky (Gr B wr)∧V=.int .i64 k) (fun V _=>g1.length - (intOf V).toNat)
  case atStart=>exact⟨0,by omega,Kz (by simp),Kz (Gr.refl _),rfl⟩
  case round=>
   obtain⟨k,hk,U,D,rfl⟩:=hrel
   rename World=>W3
   have J:=gB.trans D.o;have K:=Kz J;have y0:=au _ D.o;have y1:=ax _ D.o;have zy:=blk y0
   by_cases I:k<g1.length
   ·have ae:=Kz (fun h=>dD I U.o h)
    have T:=Kz (List.getElem_mem I);have bR:=dI bF g1 I;have bX:=Kz (show bF g1[k]≤1048576 by have:=HL.o;omega);clear bR;obtain⟨b,off,rfl,cB⟩:=bB k I;obtain⟨p0,p1,p2,p3,p4,p5,uq,uz,ve,vB,vD,vF,vG,vL,vO,vR,Y,cK,cO,dB,dS,ku,ky,dV,lq,oH,fe,oL,o5,vX,wF,wL,w9,xc,x9,yc⟩:=Lf aj I J;have k0:(0:Int)≤(k:Int):=by omega
    have k1:(k:Int)<(g1.length:Int):=by omega
    have iw:=zI1 k (by omega);have fu:=Kz (show j3 (p0,p1,p2,p3,p4,p5) by rw[Y.o];exact X.o.2.2.1.2.2.1 _ T.o);obtain⟨M,hM⟩:=nm (pB (kW (g0,g1) (p0,p1,p2,p3,p4,p5)));have O:=Kz hM;clear J hM cO dB dS dV fe;go_wp2_with fail;refine wg ?_
    iterate 8 (go_big_quiet_step ((go_at_call 123;refine aG (yU (g0,g1) (p0,p1,p2,p3,p4,p5) _ (Rd.gr HG.o ?_) (Rd.gr cK.o ?_) ah.o (by rw[Y.o];exact bX.o) (fun q hq=>(fu.o.2.2.2.2.2.1 q hq).2.1))<;>exact K.o.trans gd)))
    refine wq fun nx=>?_
    rw[←O.o]
    cases M with
    |true=>
     go_wp2_with fail;exact⟨⟨k+1,by omega,Kz (ae.o (by rw[←Y.o];exact dx.1 O.o.symm)),Kz (tg D),by go_num⟩,by simp[intOf];omega⟩
    |false=>
     go_wp2_with fail
     exact bodyPost_ret (v:=.tuple #[.int .i64 7,.int .i64 k]) (by simp[results,Tryz.results93,go_sem]) rfl ⟨7,k,rfl,⟨fun h=>absurd h (by decide),fun h=>by
      have h1:=h.2.1 _ T.o;rw[←Y.o] at h1;exact absurd h1 (lM O.o.symm)⟩,K.o.trans gd⟩
   ·obtain rfl:k=g1.length:=by omega
    rw[List.take_length] at U;have gD:=U;clear U;go_wp2_with fail;clear y0 y1 zy
    go_loopw [7] (fun V wr=>∃k:Nat,k≤g0.length∧Ky (∀s∈g0.take k,0<xC (g0,g1) s.1)∧Ky (Gr B wr)∧V=.int .i64 k) (fun V _=>g0.length - (intOf V).toNat)
    case atStart=>exact⟨0,by omega,Kz (by simp),D,rfl⟩
    case round=>
     clear D K J;obtain⟨k,hk,U,D,rfl⟩:=hrel
     rename World=>W4
     have J:=gB.trans D.o;have K:=Kz J;have y0:=au _ D.o;have y1:=ax _ D.o;have zy:=blk y0
     by_cases I:k<g0.length
     ·have ae:=Kz (fun h=>dD I U.o h)
      have T:=Kz (List.getElem_mem I);obtain⟨b,off,rfl,cB⟩:=bq k I;obtain⟨q0,q1,yu,y5,y7,y8,bg,y9,gF,gT,o9,qb,za,zb,ze⟩:=K9 ai I J;have k0:(0:Int)≤(k:Int):=by omega
      have k1:(k:Int)<(g0.length:Int):=by omega
      have iw:=zI1 k (by omega);obtain⟨M,hM⟩:=nm (decide (0<xC (g0,g1) q0));have O:=Kz hM;clear J hM gF gT;go_wp2_with fail;refine wg ?_
      iterate 9 (go_big_quiet_step ((go_at_call 124;refine aG (Bz (g0,g1) q0 _ (Rd.gr HG.o ?_) bH.o bL.o)<;>exact K.o.trans gd)))
      refine wq fun nx=>?_
      rw[←O.o]
      cases M with
      |true=>
       go_wp2_with fail;exact⟨⟨k+1,by omega,Kz (ae.o (by rw[←bg.o];exact of_decide_eq_true O.o.symm)),Kz (tg D),by go_num⟩,by simp[intOf];omega⟩
      |false=>
       go_wp2_with fail
       exact bodyPost_ret (v:=.tuple #[.int .i64 8,.int .i64 k]) (by simp[results,Tryz.results93,go_sem]) rfl ⟨8,k,rfl,⟨fun h=>absurd h (by decide),fun h=>by
        have h1:=h.2.2 _ T.o;rw[←bg.o] at h1;exact absurd h1 (of_decide_eq_false O.o.symm)⟩,K.o.trans gd⟩
     ·obtain rfl:k=g0.length:=by omega
      rw[List.take_length] at U;go_wp2_with fail;exact bodyPost_ret (v:=.tuple #[.int .i64 0,.int .i64 0]) (by simp[results,Tryz.results93,go_sem]) rfl ⟨0,0,rfl,⟨fun _=>⟨X.o,gD.o,U.o⟩,fun _=>rfl⟩,K.o⟩
 ·have zf:(c==0)=false:=by simpa using Z
  have q8:(c !=0)=true:=by simpa using Z
  go_wp2_with fail;exact bodyPost_ret (v:=.tuple #[.int .i64 c,.int .i64 ci]) (by simp[results,Tryz.results93,go_sem]) rfl ⟨c,ci,rfl,⟨fun h=>absurd h Z,fun h=>absurd (HC.o.2 h.1) Z⟩,gd⟩
theorem Ao{fg:List Nat}{cg:Array Value}(g:af d)(w:World)(hg:Rd.rd fg w cg.toList g)(B:aP g≤1048576):
  Qz 66 #[.agg cg] w (.bool (pB (jI g))):=by
 have D:=Kz B;obtain⟨I,h⟩:=nm (pB (jI g));rw[←h];have q:=Kz h;clear h B;have J:=Kz hg;obtain⟨g0,g1,ag0,kg0,X,ag1,kg1,Y,rfl,rfl,-,Z,K,O,ae,T,U⟩:=yt hg;clear hg;delta Qz;go_in;go_wp2_with fail;refine(yG (g0,g1) _ (Rd.gr J.o gd) D.o).mono ?_;rintro e w' ⟨c,ci,rfl,hc,x1,rfl⟩;have V:=Kz (show I=decide (c=0) by rw[q.o];exact lZ hc.symm);clear hc;go_wp2_with fail;go_ret;exact⟨aa (by rw[V.o];try rfl),gd⟩
structure EnvD(w0:World)(g:af d)(t:List aT)(L:List av)(ag0:Option Addr)(kg0:Nat)(ag1:Option Addr)(kg1:Nat)(at_:Option Addr)(kt:Nat)(aL:Option Addr)(kL:Nat):Prop where
 hg:∃fg,Rd.rd fg w0 [.slice ag0 g.1.length kg0,.slice ag1 g.2.length kg1] g
 ht:∃ft,Rd.rd ft w0 [.slice at_ t.length kt] t
 hL:∃fl,SlR fl w0 (.slice aL L.length kL) L
 good:jI g
 tree:fP g t=true
 list:L=bU g t
 wg:aP g≤1048576
 wt:gY t≤1048576
structure SpC(w0:World)(v0 v1 v2 v3:Value)(n bz bv bs br:Nat)(fp:List Nat)(s:Eng)(cyc:Bool)(W:World):Prop where
 gr:Gr w0 W
 hz:az W bz 76 [v0,v1,v2,v3,.slice (some ⟨bv,0,none⟩) n n,.slice (some ⟨bs,0,none⟩) n n,.slice (some ⟨br,0,none⟩) n n,.int .i64 s.steps,.bool cyc]
 hv:jZ W bv 3 s.vals
 hs:jZ W bs 3 (s.st.map Int.ofNat)
 hr:∃fps,bE (α:=fZ w0.heap.size 3) w0 54 W (.slice (some ⟨br,0,none⟩) n n) fps (s.reads.map fun l=>fZ.mk w0.heap.size 3 (l.map Int.ofNat))∧fps.flatten.Nodup∧(∀b∈fps.flatten,w0.heap.size≤b)∧fp=[bz,bv,bs,br]++fps.flatten
 nd:fp.Nodup
 ge:∀b∈fp,w0.heap.size≤b
 vl:s.vals.length=n
 sl:s.st.length=n
 rl:s.reads.length=n
 wf:∀x∈s.vals,(Lit.int .i64 x).wf=true
section
variable{w0:World}{v0 v1 v2 v3:Value}{n bz bv bs br:Nat}{fp:List Nat}{s:Eng}{cyc:Bool}{W W':World}
theorem SpC.grow(h:SpC w0 v0 v1 v2 v3 n bz bv bs br fp s cyc W)(hg:Gr W W'):SpC w0 v0 v1 v2 v3 n bz bv bs br fp s cyc W':=by
 obtain⟨fps,h1,q,B,D⟩:=h.hr;exact⟨h.gr.trans hg,h.hz.gr hg,az.gr h.hv hg,az.gr h.hs hg,⟨fps,h1.gr hg,q,B,D⟩,h.nd,h.ge,h.vl,h.sl,h.rl,h.wf⟩
theorem SpC.lt(h:SpC w0 v0 v1 v2 v3 n bz bv bs br fp s cyc W):∀b∈fp,b<W.heap.size:=by
 obtain⟨fps,h1,q,B,rfl⟩:=h.hr;intro b hb
 simp only[List.cons_append,List.nil_append,List.mem_cons] at hb;rcases hb with rfl|rfl|rfl|rfl|hb
 ·exact h.hz.lt
 ·exact h.hv.lt
 ·exact h.hs.lt
 ·exact(h1.base b rfl).2
 ·exact h1.lt b hb
theorem SpC.mem(h:SpC w0 v0 v1 v2 v3 n bz bv bs br fp s cyc W):bz∈fp∧bv∈fp∧bs∈fp∧br∈fp:=by
 obtain⟨fps,h1,q,B,rfl⟩:=h.hr;simp
theorem SpC.apart(h:SpC w0 v0 v1 v2 v3 n bz bv bs br fp s cyc W):(bz≠bv∧bz≠bs∧bz≠br)∧(bv≠bs∧bv≠br)∧bs≠br:=by
 obtain⟨fps,h1,q,B,rfl⟩:=h.hr;have hn:=h.nd;simp only[List.cons_append,List.nil_append,List.nodup_cons,List.mem_cons,not_or] at hn;exact⟨⟨hn.1.1,hn.1.2.1,hn.1.2.2.1⟩,⟨hn.2.1.1,hn.2.1.2.1⟩,hn.2.2.1.1⟩
theorem SpC.lV(h:SpC w0 v0 v1 v2 v3 n bz bv bs br fp s cyc W){b:Nat}(hb:b=bz∨b=bv∨b=bs)(hw:Wr [b] W W'):
  ∃fps,bE (α:=fZ w0.heap.size 3) w0 54 W' (.slice (some ⟨br,0,none⟩) n n) fps (s.reads.map fun l=>fZ.mk w0.heap.size 3 (l.map Int.ofNat))∧fps.flatten.Nodup∧(∀b∈fps.flatten,w0.heap.size≤b)∧fp=[bz,bv,bs,br]++fps.flatten:=by
 obtain⟨fps,h1,B,D,q⟩:=h.hr;have hn:=h.nd;rw[q] at hn;simp only[List.cons_append,List.nil_append,List.nodup_cons,List.mem_cons,not_or] at hn;refine⟨fps,h1.wr hw (fun c hc hm=>?_) (fun c hc hm=>?_),B,D,q⟩
 ·have e:=List.mem_singleton.1 hm
  subst e;rcases hb with rfl|rfl|rfl
  ·exact hn.1.2.2.2 hc
  ·exact hn.2.1.2.2 hc
  ·exact hn.2.2.1.2 hc
 ·injection hc with hc
  have e:=List.mem_singleton.1 hm;simp only at hc;rcases hb with rfl|rfl|rfl
  ·exact hn.1.2.2.1 (by omega)
  ·exact hn.2.1.2.1 (by omega)
  ·exact hn.2.2.1.1 (by omega)
theorem SpC.setCell(h:SpC w0 v0 v1 v2 v3 n bz bv bs br fp s cyc W){b:Nat}(hb:b∈fp)(o:Nat)(u:Value):MvW fp W fp (W.setCell ⟨b,o,none⟩ u):=
 ⟨(Wr.refl _ _).setCell hb u,fun c hc=>.inl hc⟩
theorem SpC.oo(h:SpC w0 v0 v1 v2 v3 n bz bv bs br fp s cyc W){b:Nat}(hb:b∈fp)(o:Nat)(u:Value):Gr w0 (W.setCell ⟨b,o,none⟩ u):=Gr.setCell h.gr (h.ge b hb) u
theorem SpC.setSt(h:SpC w0 v0 v1 v2 v3 n bz bv bs br fp s cyc W)(k x:Nat):SpC w0 v0 v1 v2 v3 n bz bv bs br fp {s with st:=s.st.set k x} cyc (W.setCell ⟨bs,k,none⟩ (.int .i64 (x:Int))):=by
 have q:=h.apart;refine⟨h.oo h.mem.2.2.1 _ _,h.hz.ne q.1.2.1,az.ne h.hv q.2.1.1,?_,h.lV (.inr (.inr rfl)) ((Wr.refl _ _).setCell (by simp) _),h.nd,h.ge,h.vl,by simpa using h.sl,h.rl,h.wf⟩;have:=h.hs.set k (x:Int);rw[List.map_set];exact this
theorem SpC.xS(h:SpC w0 v0 v1 v2 v3 n bz bv bs br fp s cyc W)(k:Nat){x:Int}(D:(Lit.int .i64 x).wf=true):SpC w0 v0 v1 v2 v3 n bz bv bs br fp {s with vals:=s.vals.set k x} cyc (W.setCell ⟨bv,k,none⟩ (.int .i64 x)):=by
 have B:=h.apart;refine⟨h.oo h.mem.2.1 _ _,h.hz.ne B.1.1,h.hv.set k x,az.ne h.hs B.2.1.1.symm,h.lV (.inr (.inl rfl)) ((Wr.refl _ _).setCell (by simp) _),h.nd,h.ge,by simpa using h.vl,h.sl,h.rl,fun y q=>?_⟩;rcases List.mem_or_eq_of_mem_set q with q|rfl
 ·exact h.wf y q
 ·exact D
theorem SpC.wN(h:SpC w0 v0 v1 v2 v3 n bz bv bs br fp s cyc W)(c:Bool):SpC w0 v0 v1 v2 v3 n bz bv bs br fp s c (W.setCell ⟨bz,8,none⟩ (.bool c)):=by
 have q:=h.apart;exact⟨h.oo h.mem.1 _ _,h.hz.set 8 (.bool c),az.ne h.hv q.1.1.symm,az.ne h.hs q.1.2.1.symm,h.lV (.inl rfl) ((Wr.refl _ _).setCell (by simp) _),h.nd,h.ge,h.vl,h.sl,h.rl,h.wf⟩
theorem SpC.oh(h:SpC w0 v0 v1 v2 v3 n bz bv bs br fp s cyc W)(m:Int):SpC w0 v0 v1 v2 v3 n bz bv bs br fp {s with steps:=m} cyc (W.setCell ⟨bz,7,none⟩ (.int .i64 m)):=by
 have q:=h.apart;exact⟨h.oo h.mem.1 _ _,h.hz.set 7 (.int .i64 m),az.ne h.hv q.1.1.symm,az.ne h.hs q.1.2.1.symm,h.lV (.inl rfl) ((Wr.refl _ _).setCell (by simp) _),h.nd,h.ge,h.vl,h.sl,h.rl,h.wf⟩
theorem SpC.push(h:SpC w0 v0 v1 v2 v3 n bz bv bs br fp s cyc W){j:Nat}(hj:j<n):
  ∃J I,W.cell? ⟨br,j,none⟩=some J∧W.frozen? ⟨br,j,none⟩=false∧bE (α:=Int) w0 3 W J I ((s.reads.getD j []).map Int.ofNat)∧I.flatten=[]∧(∀b∈J.ownBlock.toList,b≠bz∧b≠bv∧b≠bs∧b≠br)∧
   ∀B v9 (k:Nat),Wr J.ownBlock.toList W B→Gr w0 B→bE (α:=Int) w0 3 B v9 (I++[[]]) ((s.reads.getD j []).map Int.ofNat++[Int.ofNat k])→(v9.ownBlock=J.ownBlock∨∃m,v9.ownBlock=some m∧W.heap.size≤m)→
    ∃fq,SpC w0 v0 v1 v2 v3 n bz bv bs br fq {s with reads:=s.reads.set j (s.reads.getD j []++[k])} cyc (B.setCell ⟨br,j,none⟩ v9)∧MvW fp W fq (B.setCell ⟨br,j,none⟩ v9):=by
 have O:=h.lt;have T:=h.ge;obtain⟨fps,h1,h2,h3,Z⟩:=h.hr;have hn:=h.nd;rw[Z] at hn O T;simp only[List.cons_append,List.nil_append,List.nodup_cons,List.mem_cons,not_or] at hn;have ae:j<(s.reads.map fun l=>fZ.mk w0.heap.size 3 (l.map Int.ofNat)).length:=by simpa[h.rl] using hj
 obtain⟨g,cap,J,I,hv,bq,bB,hcap,hc,hf,hO,ah,ai,hsub,aj⟩:=h1.Ka h2 h3 ae;injection hv with U e2 e3;injection U with U;injection U with U _ _;subst U;have ak:j<s.reads.length:=by rw[h.rl];exact hj
 have au:((s.reads.map fun l=>fZ.mk w0.heap.size 3 (l.map Int.ofNat))[j]).o=(s.reads.getD j []).map Int.ofNat:=by
  rw[List.getElem_map]
  show(s.reads[j]).map Int.ofNat=_
  rw[List.getD_eq_getElem?_getD,List.getElem?_eq_getElem ak];rfl
 rw[au] at hO;refine⟨J,I,hc,hf,hO,ah,fun b hb=>⟨fun e=>?_,fun e=>?_,fun e=>?_,fun e=>?_⟩,fun B v9 k hw ax ay Y=>?_⟩
 ·subst e;exact hn.1.2.2.2 (hsub _ hb)
 ·subst e;exact hn.2.1.2.2 (hsub _ hb)
 ·subst e;exact hn.2.2.1.2 (hsub _ hb)
 ·subst e;exact ai hb
 ·obtain⟨D,k1,k2,k3,k4⟩:=aj B v9 _ hw ay Y
  have hnew:∀b∈D.flatten,b∈fps.flatten∨W.heap.size≤b:=fun b hb=>by
   rcases k4 b hb with q|q
   ·exact .inl q
   ·rcases Y with e9|⟨m,e9,hm⟩
    ·rw[e9] at q;exact .inl (hsub b q)
    ·rw[e9] at q
     simp at q;subst q;exact .inr hm
  have K:∀c,c∈[bz,bv,bs,br]→c∉fps.flatten→c∉D.flatten:=fun c hc V hm=>by
   rcases hnew c hm with q|q
   ·exact V q
   ·have:=O c (List.mem_append_left _ hc);omega
  have aZ:Wr fp W (B.setCell ⟨br,j,none⟩ v9):=by
   rw[Z];refine(hw.sub fun c hc=>List.mem_append_right _ (hsub c hc)).trans ((Wr.refl _ _).setCell (by simp) _)
  have X:∀c,c∈[bz,bv,bs]→c∉fps.flatten→c≠br→(B.setCell ⟨br,j,none⟩ v9).heap[c]?=W.heap[c]?:=fun c hc V bg=>by
   rw[heap_setCell bg];exact hw.block c (O c (List.mem_append_left _ (by simp only[List.mem_cons,List.not_mem_nil,or_false] at hc ⊢;rcases hc with rfl|rfl|rfl<;>simp))) (fun hm=>V (hsub c hm))
  refine⟨[bz,bv,bs,br]++D.flatten,⟨Gr.setCell ax (T _ (by simp)) _,h.hz.keep (X bz (by simp) hn.1.2.2.2 hn.1.2.2.1),az.keep h.hv (X bv (by simp) hn.2.1.2.2 hn.2.1.2.1),az.keep h.hs (X bs (by simp) hn.2.2.1.2 hn.2.2.1.1),⟨D,?_,k2,k3,rfl⟩,?_,?_,h.vl,h.sl,by simpa using h.rl,h.wf⟩,aZ,fun b hb=>?_⟩
  ·have e5:(s.reads.set j (s.reads.getD j []++[k])).map (fun l=>fZ.mk w0.heap.size 3 (l.map Int.ofNat))=(s.reads.map fun l=>fZ.mk w0.heap.size 3 (l.map Int.ofNat)).set j (fZ.mk w0.heap.size 3 ((s.reads.getD j []).map Int.ofNat++[Int.ofNat k])):=by
    rw[List.map_set,List.map_append];rfl
   rw[e5];exact k1
  ·simp only[List.cons_append,List.nil_append,List.nodup_cons,List.mem_cons,not_or]
   exact⟨⟨hn.1.1,hn.1.2.1,hn.1.2.2.1,K bz (by simp) hn.1.2.2.2⟩,⟨hn.2.1.1,hn.2.1.2.1,K bv (by simp) hn.2.1.2.2⟩,⟨hn.2.2.1.1,K bs (by simp) hn.2.2.1.2⟩,K br (by simp) hn.2.2.2.1,k2⟩
  ·intro b hb
   rcases List.mem_append.1 hb with hb|hb
   ·exact T b (List.mem_append_left _ hb)
   ·exact k3 b hb
  ·rw[Z]
   rcases List.mem_append.1 hb with hb|hb
   ·exact .inl (List.mem_append_left _ hb)
   ·exact(hnew b hb).imp (List.mem_append_right _) id
end
end Go.Proofs.YtleafadpfeibfaaGreat
namespace Go.Proofs.YtleafadpfeibfaaGreat
open Go.RowKit
variable{d:Nat}
theorem Ag{t:List aT}{m:Nat}(h:m<t.length){n:ByteArray}:KF t (m:Int) (0,n)=some (t[m].1,n):=by
 unfold KF;rw[gG h];rfl
theorem zW{t:List aT}{m j:Nat}(h:m<t.length){p:Int}(D:p=(j:Int)+1)(q:j<t[m].2.2.2.2.2.length){c:Nat}(hc:t[m].2.2.2.2.2[j]=(c:Int))(B:c<t.length){n:ByteArray}:KF t (m:Int) (p,n)=some (t[c].1,n):=by
 unfold KF;rw[gG h];simp only;rw[if_neg (by omega),if_pos (by omega)];have e:(p - 1).toNat=j:=by omega
 rw[e,List.getD_eq_getElem?_getD,List.getElem?_eq_getElem q,Option.getD_some,hc,gG B]
theorem qN{t:List aT}{m j:Nat}(h:m<t.length){p:Int}(B:p=(j:Int)+1)(q:j<t[m].2.2.2.2.2.length)(hc:t[m].2.2.2.2.2[j]<0∨(t.length:Int) - 1<t[m].2.2.2.2.2[j]){n:ByteArray}:KF t (m:Int) (p,n)=none:=by
 unfold KF;rw[gG h];simp only;rw[if_neg (by omega),if_pos (by omega)];have e:(p - 1).toNat=j:=by omega
 rw[e,List.getD_eq_getElem?_getD,List.getElem?_eq_getElem q,Option.getD_some,jY hc]
theorem zF{t:List aT}{m:Nat}(h:m<t.length){p:Int}(q:p<0∨(t[m].2.2.2.2.2.length:Int)<p){n:ByteArray}:KF t (m:Int) (p,n)=none:=by
 unfold KF;rw[gG h];simp only;rw[if_neg (by omega),if_neg (by omega)]
theorem rD(w:World):Rd.rd (α:=av) ([]++[]) w [.int .i64 0,.string ⟨#[]⟩] iN:=bZ (w:=w) 0 ⟨#[]⟩ (by decide) (by decide)
theorem yY{fg ft fo:List Nat}{cg ct co:Array Value}(g:af d)(t:List aT)(m:Nat)(o:ag)(w:World)(hg:Rd.rd fg w cg.toList g)(ht:Rd.rd ft w ct.toList t)(ho:Rd.rd fo w co.toList o)(hm:m<t.length):
  Calls Tryz.prog 165 #[.agg cg,.agg ct,.int .i64 (m:Int),.agg co] w (Found [] w (KF t (m:Int) o) iN):=by
 obtain⟨g0,g1,ag0,kg0,vB,ag1,kg1,vD,rfl,rfl,-,vO,o9,qb,vR,q8,q9⟩:=yt hg;clear hg;obtain⟨t0,vX,au,wF,rfl,rfl,-,ai,sO,uf⟩:=K8 ht;have bq:=ai.op3;clear ht;obtain⟨h,q,rfl,rfl,-,w9,ax⟩:=KT ho;clear ho;have I:m<t0.length:=hm;obtain⟨b,off,rfl,xc⟩:=bq m I;obtain⟨q0,q1,q2,q3,q4,q5,x9,yc,yu,y5,U,y7,ay,bH,bR,bX,cB,aj,uo,uq,cK,y8,y9,za,zb,cO,ze⟩:=KZ ai I (Gr.refl _);have bB:=aj.op3;have dB:=Kz aj;have dS:=Kz ay;have aZ:=Kz ax;have m0:(0:Int)≤(m:Int):=by omega
 have m1:(m:Int)≤(t0.length:Int) - 1:=by omega
 have m2:(m:Int)<(t0.length:Int):=by omega
 clear hm ay bH bR bX cB aj ax;go_in;go_wp2_with fail;generalize hB:((((w.alloc (.cells #[.slice ag0 g0.length kg0,.slice ag1 g1.length kg1] 39)).alloc (.cells #[.slice (some ⟨b,off,none⟩) t0.length au] 43)).alloc (.cells #[.int .i64 h,.string q] 181)).alloc (.cells #[.int .i64 0,.string ⟨#[]⟩] 45))=B;have V:Gr w B:=gb hB;have dV:=kb hB (w.heap.size+1) 0 (.slice (some ⟨b,off,none⟩) t0.length au);obtain⟨fe,fu⟩:=kb2 hB (w.heap.size+2) (.int .i64 h) (.string q);have EB:=Kz hB;clear hB;have J:Ky (az B (w.heap.size+1+1+1) 45 [.int .i64 0,.string ⟨#[]⟩]):=Kz (by rw[←EB.o];exact az.new (by simp));have y0:=dV _ (Gr.refl _);have y1:=fe _ (Gr.refl _);have y2:=fu _ (Gr.refl _);have zf:=blk y0;have zg:=blk y1;have gD:=V.keep cK;have zl:=V.keep cO;have zn:=blk gD;rcases(show h=0∨(0<h∧h≤(q5.length:Int))∨(h<0∨(q5.length:Int)<h) by omega) with h0|h0|h0
 ·have D:=Kz (show KF t0 (m:Int) (h,q)=some (q0,q) by rw[h0,Ag I,←U.o])
  have ak:=Kz (fun W=>bZ (w:=W) q0 q dS.o aZ.o);have zo:¬0<h:=by omega
  have zq:0≤h:=by omega
  have zx:h≤(q5.length:Int):=by omega
  clear h0;refine wg ?_
  iterate 20 (go_big_quiet_step (first|(go_at_call 96;first|exact aG (fJ _ _ _ _ (by omega) (by omega))|exact aG (eu _ _ _ _ (by omega)))))
  refine wq fun nx=>?_
  have hv:=J.o;obtain⟨X,u1⟩:=hv.c2;have r0:=hv.frozen;have zu:=blk X;clear hv
  go_wp2_with (first|(go_at_call 96;refine(fJ _ _ _ _ (by omega) (by omega)).mono ?_;rintro e w' ⟨rfl,x1,rfl⟩))
  go_region
  all_goals
   go_wp2_with fail;generalize K:(B.setCell ⟨w.heap.size+1+1+1,0,none⟩ (.int .i64 q0)).setCell ⟨w.heap.size+1+1+1,1,none⟩ (.string q)=WF;have Y:az WF (w.heap.size+1+1+1) 45 [.int .i64 q0,.string q]:=by rw[←K];exact az.nR J.o _ _
   have Z:Gr w WF:=by rw[←K];exact Gr.nR V (by omega) _ _
   have vG:az ((WF.ext nx).ext x1) (w.heap.size+1+1+1) 45 [.int .i64 q0,.string q]:=Y.gr gd;obtain⟨O,T⟩:=vG.c2;exact bodyPost_ret (v:=.tuple #[.agg #[.int .i64 q0,.string q],.bool true]) (by simp[results,Tryz.results165,go_sem,O,T]) rfl ⟨_,_,by rw[D.o];rfl,by rw[D.o];exact ak.o _,by simp,Z.trans gd⟩
 ·obtain⟨j,hj⟩:∃j:Nat,h=(j:Int)+1:=⟨(h - 1).toNat,by omega⟩
  have ah:j<q5.length:=by omega
  obtain⟨c,hc⟩:=nm (q5[j]);obtain⟨bL,oL,rfl,zy⟩:=bB j ah;have cL:=(dB.o.fQ ah).1;rw[←hc] at cL;have gT:h - 1=(j:Int):=by omega
  have j0:(0:Int)≤(j:Int):=by omega
  have j1:(j:Int)<(q5.length:Int):=by omega
  have zH:IntKind.i64.wrap (h - 1)=(j:Int):=by rw[gT];exact IntWalk.i64_in _ (by omega)
  have HC:=Kz hc;have HJ:=Kz hj;clear hc hj
  by_cases gV:0≤c∧c≤(t0.length:Int) - 1
  ·obtain⟨n,rfl⟩:∃n:Nat,c=n:=⟨c.toNat,by omega⟩
   have hn:n<t0.length:=by omega
   have ae:=Kz (show KF t0 (m:Int) (h,q)=some (t0[n].1,q) from zW I HJ.o (by rw[←U.o];exact ah) (by simp only[←U.o];exact HC.o.symm) hn);have I:=hn;have gX:Gr w w:=Gr.refl w;obtain⟨p0,p1,p2,p3,p4,p5,zL,zO,z8,A7,ik,BM,bg,iw,kr,ku,ky,lq,uz,ve,oH,E5,FX,F4,F5,F6,F8⟩:=KZ ai I gX;have o5:=Kz bg;rw[←ik.o] at ae;have D:=ae;have ak:=Kz (fun W=>bZ (w:=W) p0 q o5.o aZ.o);have n0:(0:Int)≤(n:Int):=by omega
   have n1:(n:Int)≤(t0.length:Int) - 1:=by omega
   have n2:(n:Int)<(t0.length:Int):=by omega
   clear bg iw kr ku ky lq ae;refine wg ?_
   iterate 20 (go_big_quiet_step (first|(go_at_call 96;first|exact aG (fJ _ _ _ _ (by omega) (by omega))|exact aG (eu _ _ _ _ (by omega)))))
   refine wq fun nx=>?_
   have hv:=J.o;obtain⟨X,u1⟩:=hv.c2;have r0:=hv.frozen;have zu:=blk X;clear hv;have wL:Gr w (B.ext nx):=V.trans gd;have vL:=wL.keep cL;have Ha:=wL.keep oH;go_wp2_with fail
   go_region
   all_goals
    go_wp2_with (first|(go_at_call 96;refine(fJ _ _ _ _ (by omega) (by omega)).mono ?_;rintro e w' ⟨rfl,x1,rfl⟩))
    go_region
    all_goals
     go_wp2_with fail;generalize K:(B.setCell ⟨w.heap.size+1+1+1,0,none⟩ (.int .i64 p0)).setCell ⟨w.heap.size+1+1+1,1,none⟩ (.string q)=WF;have Y:az WF (w.heap.size+1+1+1) 45 [.int .i64 p0,.string q]:=by rw[←K];exact az.nR J.o _ _
     have Z:Gr w WF:=by rw[←K];exact Gr.nR V (by omega) _ _
     have vG:az ((WF.ext nx).drew.ext x1) (w.heap.size+1+1+1) 45 [.int .i64 p0,.string q]:=Y.gr gd;obtain⟨O,T⟩:=vG.c2;exact bodyPost_ret (v:=.tuple #[.agg #[.int .i64 p0,.string q],.bool true]) (by simp[results,Tryz.results165,go_sem,O,T]) rfl ⟨_,_,by rw[D.o];rfl,by rw[D.o];exact ak.o _,by simp,Z.trans gd⟩
  ·have D:=Kz (show KF t0 (m:Int) (h,q)=none from qN I HJ.o (by rw[←U.o];exact ah) (by simp only[←U.o,←HC.o];omega))
   have He:c<0∨(t0.length:Int) - 1<c:=by omega
   clear gV;refine wg ?_
   iterate 20 (go_big_quiet_step (first|(go_at_call 96;first|exact aG (fJ _ _ _ _ (by omega) (by omega))|exact aG (eu _ _ _ _ (by omega)))))
   refine wq fun nx=>?_
   have hv:=J.o;obtain⟨X,u1⟩:=hv.c2;have r0:=hv.frozen;have zu:=blk X;clear hv;have wL:Gr w (B.ext nx):=V.trans gd;have vL:=wL.keep cL;go_wp2_with fail
   go_region
   all_goals
    go_wp2_with (first|(go_at_call 96;refine(eu _ _ _ _ (by omega)).mono ?_;rintro e w' ⟨rfl,x1,rfl⟩))
    generalize K:(B.setCell ⟨w.heap.size+1+1+1,0,none⟩ (.int .i64 0)).setCell ⟨w.heap.size+1+1+1,1,none⟩ (.string ⟨#[]⟩)=WF;have Y:az WF (w.heap.size+1+1+1) 45 [.int .i64 0,.string ⟨#[]⟩]:=by rw[←K];exact az.nR J.o _ _
    have Z:Gr w WF:=by rw[←K];exact Gr.nR V (by omega) _ _
    have vG:az ((WF.ext nx).drew.ext x1) (w.heap.size+1+1+1) 45 [.int .i64 0,.string ⟨#[]⟩]:=Y.gr gd;obtain⟨O,T⟩:=vG.c2;exact bodyPost_ret (v:=.tuple #[.agg #[.int .i64 0,.string ⟨#[]⟩],.bool false]) (by simp[results,Tryz.results165,go_sem,O,T]) rfl ⟨_,_,by rw[D.o];rfl,by rw[D.o];exact rD _,by simp,Z.trans gd⟩
 ·have D:=Kz (show KF t0 (m:Int) (h,q)=none from zF I (by rw[←U.o];exact h0))
  refine wg ?_
  iterate 20 (go_big_quiet_step (first|(go_at_call 96;first|exact aG (fJ _ _ _ _ (by omega) (by omega))|exact aG (eu _ _ _ _ (by omega)))))
  refine wq fun nx=>?_
  have hv:=J.o;obtain⟨X,u1⟩:=hv.c2;have r0:=hv.frozen;have zu:=blk X;clear hv;go_wp2_with fail;generalize K:(B.setCell ⟨w.heap.size+1+1+1,0,none⟩ (.int .i64 0)).setCell ⟨w.heap.size+1+1+1,1,none⟩ (.string ⟨#[]⟩)=WF;have Y:az WF (w.heap.size+1+1+1) 45 [.int .i64 0,.string ⟨#[]⟩]:=by rw[←K];exact az.nR J.o _ _
  have Z:Gr w WF:=by rw[←K];exact Gr.nR V (by omega) _ _
  have vG:az (WF.ext nx) (w.heap.size+1+1+1) 45 [.int .i64 0,.string ⟨#[]⟩]:=Y.gr gd;obtain⟨O,T⟩:=vG.c2;exact bodyPost_ret (v:=.tuple #[.agg #[.int .i64 0,.string ⟨#[]⟩],.bool false]) (by simp[results,Tryz.results165,go_sem,O,T]) rfl ⟨_,_,by rw[D.o];rfl,by rw[D.o];exact rD _,by simp,Z.trans gd⟩
end Go.Proofs.YtleafadpfeibfaaGreat
