/- Contracts and laws towards ReadsOf, part 43 of 54. No condition. -/
import Derived.Test.YtleafadpfeibfaaGreatRx39
set_option maxHeartbeats 32000000
set_option maxRecDepth 10000
set_option linter.unusedVariables false
set_option linter.unusedSimpArgs false
namespace Go.Proofs.YtleafadpfeibfaaGreat
open Go.RowKit
open _root_.List (getElem_mem take_length)
variable{d:Nat}
variable{fg fr:List Nat}{cg cr:Array Value}
theorem Jf{es:List (aX d)}{o:ag}:(es.any fun q=>decide (q.1=o))=pB (o∈es.map Prod.fst):=by
 rw[Bool.eq_iff_iff,dx,List.any_eq_true,List.mem_map];constructor
 ·rintro⟨x,h1,h⟩;exact⟨x,h1,of_decide_eq_true h⟩
 ·rintro⟨x,h1,h⟩;exact⟨x,h1,decide_eq_true h⟩
set_option maxRecDepth 100000 in
theorem sD(g:af d)(r:aW d)(w:World)(hg:Rd.rd fg w cg.toList g)(hr:Rd.rd fr w cr.toList r)(hl:aP g≤1048576)(bB:bF r≤1048576):
    Qz 176 #[.agg cg,.agg cr] w (.bool (!pB (qd g r))):=by
  have lq:=Kz hl;have HG:=Kz hg;obtain⟨g0,g1,ag0,kg0,x9,ag1,kg1,yc,rfl,rfl,-,yu,vD,vF,y5,vG,vL⟩:=yt hg;clear hg;have HR:=Kz hr;obtain⟨U,V,O,r3,D,X,oH,oL,y7,bH,bL,y8,o5,o9,y9,rfl,rfl,-,za,zb,ze,vO,vR,ai,vX,wF,zf,wL,w9⟩:=KV hr;have fu:=ai.op3;clear hr;have qb:U.size+V.size+wtL ByteArray.size O+wtL aU D+wtL aI X≤1048576:=bB;have q8:O.length≤1048576:=by have:=bT ByteArray.size O;omega
  have zg:D.length≤1048576:=by have:=bT aU D;omega
  obtain⟨Q,hQ⟩:=nm (mg (g0,g1) (U,V,O,r3,D,X));have aj:=Kz hQ;clear hQ hl bB qb;delta Qz;go_in;go_wp2_with fail;refine(uQ (g0,g1) (U,V,O,r3,D,X) _ (Rd.gr HG.o gd) (Rd.gr HR.o gd) lq.o q8).mono ?_;rintro e w' ⟨v,fq,rfl,hs,hf,x1,rfl⟩;rw[←aj.o] at hs;generalize hB:(((w.alloc (.cells #[.slice ag0 g0.length kg0,.slice ag1 g1.length kg1] 39)).alloc (.cells #[.string U,.string V,.slice oH O.length oL,.bool r3,.slice bH D.length bL,.slice o5 X.length o9] 128)).ext x1)=B;have gB:Gr w B:=gb hB;have bR:=kb hB (w.heap.size+1) 4 (.slice bH D.length bL);have EB:=Kz hB;clear hB;replace hs:SlR fq B v Q:=by rw[←EB.o];exact hs
  obtain⟨aq,kq,rfl,zl,zn,zo⟩:=hs.open;have HS:=Kz hs;have q9:=bR _ (Gr.refl _);clear hs hf;go_wp2_with fail
  go_loopw [14] (fun s7 wr=>∃k:Nat,k≤D.length∧Ky (∀q∈D.take k,q.1∈Q)∧Ky (zh Prod.fst (D.take k))∧Ky (Gr B wr)∧s7=.int .i64 k) (fun s7 _=>D.length - (intOf s7).toNat)
  case atStart=>exact⟨0,by omega,Kz (by simp),Kz (by intro i h;simp at h),Kz (Gr.refl _),rfl⟩
  case round=>
    clear q9;obtain⟨k,hk,HA,HD,Z,rfl⟩:=hrel
    rename World=>W1
    have Y:=bR _ Z.o;have bX:=blk Y;have ak:=gB.trans Z.o;have ae:=Kz ak
    by_cases K:k<D.length
    · have sO:=Kz (fun h=>dD K HA.o h)
      have uf:=Kz (xx K HD.o);have uo:=Kz (Aa (f:=Prod.fst) (xs:=D) K);have gD:=Kz (getElem_mem K);have uq:=Kz (HS.o.gr Z.o);obtain⟨zq,au,-⟩:=ai.pre hk;have gF:=Kz (au.gr ae.o);clear au;obtain⟨b,off,rfl,zu⟩:=fu k K;obtain⟨I,J,cB,cK,cO,dB,dS,dV,fe,ax,ay,xc,zx,ah,zy,aZ,bg,gT,gV,gX,ik,kr,ku,ky,ve,vB,zH,zL,zO,z8,A7,BM,E5,FX,F4,F5⟩:=KY ai K ak;have k0:(0:Int)≤(k:Int):=by omega
      have k1:(k:Int)<(D.length:Int):=by omega
      have iw:=zI1 k (by omega);have uz:=Kz (fun W=>bO (w:=W) I J aZ bg);clear ak aZ bg gT gV gX ik kr ku ky;go_wp2_with fail;generalize hC:(W1.alloc (.cells #[.int .i64 I,.string J,.int .i64 cB,.int .i64 cK,.int .i64 cO,.int .i64 dB,.string dS,.string dV,.slice ax fe.length ay] 183))=C;have gC:Gr W1 C:=gb hC;have VC:=Kz (show az C W1.heap.size 183 [.int .i64 I,.string J,.int .i64 cB,.int .i64 cK,.int .i64 cO,.int .i64 dB,.string dS,.string dV,.slice ax fe.length ay] from by rw[←hC];exact az.new rfl);have T:=Kz gC;replace Y:=gC.keep Y;replace bX:=blk Y;clear hC gC;refine(vQ Q (I,J) _ (uq.o.gr T.o) (uz.o _)).mono ?_;rintro e w' ⟨rfl,x2,rfl⟩
      by_cases hp:(I,J)∈Q
      · rw[bQ hp]
        have HP:=Kz hp;clear hp;replace Y:=(show Gr C (C.ext x2) from gd).keep Y;replace bX:=blk Y
        have HT:=Kz (show TestEquation (C.ext x2) 222 #[.pointer (some ⟨W1.heap.size,0,none⟩)] (fun q=>decide (q.1=(I,J))) (D.take k) from
          ⟨Tryz.call222,fun z _ x fp cs hr=>DY z (I,J) W1.heap.size _ hr ((VC.o.gr ((gd:Gr C (C.ext x2)).trans gd)).c 0) ((VC.o.gr ((gd:Gr C (C.ext x2)).trans gd)).c 1)⟩)
        obtain⟨M,hM⟩:=nm (pB ((I,J)∈(D.take k).map Prod.fst));have HM:=Kz hM;clear hM
        go_wp2_with (first|(go_at_call 219;refine(jO _ _ (D.take k) _ _ (fun q=>decide (q.1=(I,J))) _ (gF.o.gr (tg T)) HT.o).mono ?_;rintro e w' ⟨rfl,x3,rfl⟩;rw[Jf,←HM.o]))
        go_ways
        all_goals first
          | (have bq:M=true:=by assumption
             have hm:(I,J)∈(D.take k).map Prod.fst:=dx.1 (HM.o.symm.trans bq);go_ret;exact⟨aa (by rw[bV (show¬qd (g0,g1) (U,V,O,r3,D,X) from fun h=>uo.o (by rw[←ah.o];exact hm) h.2)];rfl),ae.o.trans (tg T)⟩)
          | (have bq:M=false:=by assumption
             have hm:¬((I,J)∈(D.take k).map Prod.fst):=lM (HM.o.symm.trans bq);exact⟨⟨k+1,by omega,Kz (sO.o (by rw[←ah.o];exact HP.o)),Kz (uf.o (by rw[←ah.o];exact hm)),Kz (Z.o.trans (tg T)),by go_num⟩,by simp[intOf];omega⟩)
         
      · rw[bV hp]
        have HP:=Kz hp;clear hp;go_wp2_with fail;go_ret;exact⟨aa (by rw[bV (show¬qd (g0,g1) (U,V,O,r3,D,X) from fun h=>HP.o (by have h1:=h.1 _ gD.o;rw[←ah.o,←aj.o] at h1;exact h1))];rfl),ae.o.trans (tg T)⟩
    · obtain rfl:k=D.length:=by omega
      rw[take_length] at HA HD;go_wp2_with fail;go_ret;exact⟨aa (by rw[bQ (show qd (g0,g1) (U,V,O,r3,D,X) from⟨fun q hq=>by rw[←aj.o];exact HA.o q hq,HD.o⟩)];rfl),ae.o⟩
theorem wB{g:af d}{r:aW d}(h:aP g≤1048576):(n:Nat)→JC g r n
 |0=>by intro fg fr fx cg cr cx x;exact PEmpty.elim x
 |n+1=>FD h (wB h n)
theorem oO{n:Nat}{fx:List Nat}{cx:Array Value}(g:af d)(r:aW d)(x:aA n)(v:Int)(w:World)(hg:Rd.rd fg w cg.toList g)(hr:Rd.rd fr w cr.toList r)(B:Rd.rd fx w cx.toList x)(D:aP g≤1048576)(q:aS x≤1048576)(hv:dZ g r (n+1) x=v):
  Qz 179 #[.agg cg,.agg cr,.agg cx] w (.int .i64 v):=by
 have h:=wB (g:=g) (r:=r) D (n+1) fg fr fx cg cr cx x w hg hr B q;rw[hv] at h;exact h.mono fun e w' h=>⟨h.1,h.2.2⟩
theorem qi(g:af d)(r:aW d)(w:World)(hg:Rd.rd fg w cg.toList g)(hr:Rd.rd fr w cr.toList r)(hl:aP g≤1048576)(HY:bF r≤1048576):
  Qz 135 #[.agg cg,.agg cr] w (.bool (!pB (kW g r))):=by
 have o5:=Kz hl;have HG:=Kz hg;obtain⟨g0,g1,ag0,kg0,MP,ag1,kg1,MQ,rfl,rfl,-,MR,Mw,Mx,MS,MB,MC⟩:=yt hg;clear hg;have HR:=Kz hr;obtain⟨Y,Z,r2,r3,K,O,HZ,H5,MU,IV,KX,MV,K3,K4,MW,rfl,rfl,-,MX,MZ,M0,ME,MF,K6,MG,MH,La,MI,MJ⟩:=KV hr;have LF:=K6.op3;have LG:=La.op3;clear hr;have Li:Y.size+Z.size+wtL ByteArray.size r2+wtL aU K+wtL aI O≤1048576:=HY;have M3:K.length≤1048576:=by have:=bT aU K;omega
 have M4:O.length≤1048576:=by have:=bT aI O;omega
 have HL:=Kz Li;clear hl HY Li;delta Qz;go_in;go_wp2_with fail;generalize hB:(w.alloc (.cells #[.slice ag0 g0.length kg0,.slice ag1 g1.length kg1] 39)).alloc (.cells #[.string Y,.string Z,.slice HZ r2.length H5,.bool r3,.slice IV K.length KX,.slice K3 O.length K4] 128)=B;have gB:Gr w B:=gb hB;have VG:=Kz (show az B w.heap.size 39 [.slice ag0 g0.length kg0,.slice ag1 g1.length kg1] from by rw[←hB];exact kv);have VR:=Kz (show az B (w.heap.size+1) 128 [.string Y,.string Z,.slice HZ r2.length H5,.bool r3,.slice IV K.length KX,.slice K3 O.length K4] from by rw[←hB];exact kv);have Lj:=Kz gB;clear hB gB
 go_loopw [18] (fun s5 wr=>∃k:Nat,k≤K.length∧Ky (∀q∈K.take k,dZ (g0,g1) (Y,Z,r2,r3,K,O) (d+1) q.2=pO (jf (g0,g1) (Y,Z,r2,r3,K,O) q.1))∧Ky (Gr B wr)∧s5=.int .i64 k) (fun s5 _=>K.length - (intOf s5).toNat)
 case atStart=>exact⟨0,by omega,Kz (by simp),Kz (Gr.refl _),rfl⟩
 case round=>
  obtain⟨k,hk,HA,bg,rfl⟩:=hrel
  rename World=>W1
  have gT:=Lj.o.trans bg.o;have o9:=Kz gT;have vg:=VG.o.gr bg.o;have vr:=VR.o.gr bg.o;obtain⟨U,ah⟩:=vg.c2;obtain⟨X,ai,aj,ak,au,ax⟩:=vr.c6;have zg:=blk U;have zr:=blk X;clear vg vr
  by_cases bq:k<K.length
  ·have uo:=Kz (fun h=>dD bq HA.o h)
   have q9:=Kz (getElem_mem bq);have qb:=dI aU K bq;obtain⟨b,off,rfl,q8⟩:=LF k bq;obtain⟨gV,fu,gX,ik,kr,ku,ky,lq,oH,uq,uz,MK,LW,oL,LX,ve,vB,vD,vF,vG,vL,vO,vR,vX,Mo,Mq,wF,wL,w9,xc,x9,yc,yu,y5,y7,y8⟩:=KY K6 bq gT;have LY:=Kz (bJ gX ik kr ku ky lq oH vD vF vG vL vO vR vX);have LZ:=Kz (fun W=>bO (w:=W) gV fu ve vB)
   have L6:=Kz (show aS (gX,ik,kr,ku,ky,lq,oH)≤1048576 by
    have h2:=HL.o;rw[←oL.o] at qb;have h3:aU (((gV,fu),(gX,ik,kr,ku,ky,lq,oH)):aX d)=fu.size+aS (gX,ik,kr,ku,ky,lq,oH):=rfl;omega)
   clear qb;obtain⟨T,hT⟩:=nm (dZ (g0,g1) (Y,Z,r2,r3,K,O) (d+1) (gX,ik,kr,ku,ky,lq,oH));have HT:=Kz hT;have k0:(0:Int)≤(k:Int):=by omega
   have k1:(k:Int)<(K.length:Int):=by omega
   have iw:=zI1 k (by omega);clear gT ve vB vD vF vG vL vO vR vX hT;go_wp2_with fail;generalize hC:(W1.alloc (.cells #[.int .i64 gV,.string fu,.int .i64 gX,.int .i64 ik,.int .i64 kr,.int .i64 ku,.string ky,.string lq,.slice uq oH.length uz] 183))=C;have gC:Gr W1 C:=gb hC;have VC:=Kz (show az C W1.heap.size 183 [.int .i64 gV,.string fu,.int .i64 gX,.int .i64 ik,.int .i64 kr,.int .i64 ku,.string ky,.string lq,.slice uq oH.length uz] from by rw[←hC];exact az.new rfl);have I:=Kz gC;clear hC gC;replace U:=I.o.keep U;replace ah:=I.o.keep ah;replace X:=I.o.keep X;replace ai:=I.o.keep ai;replace aj:=I.o.keep aj;replace ak:=I.o.keep ak;replace au:=I.o.keep au;replace ax:=I.o.keep ax;replace zg:=blk U;replace zr:=blk X;obtain⟨c0,c1,c2,c3,c4,c5,c6,c7,c8⟩:=VC.o.c9;have zc:=blk c0;have gF:=Kz (o9.o.trans I.o);clear wF wL w9 xc x9 yc yu y5 y7 y8;refine(mM (g0,g1) (Y,Z,r2,r3,K,O) (gV,fu) _ (Rd.gr HG.o (tg gF)) (Rd.gr HR.o (tg gF)) (LZ.o _)).mono ?_;rintro e w' ⟨es,L8,rfl,hr,-,x3,rfl⟩;have J:Gr C (C.ext x3):=gd;generalize C.ext x3=D0 at hr J ⊢;have hr:Rd.rd L8 D0 es.toList ((jf (g0,g1) (Y,Z,r2,r3,K,O) (gV,fu)).getD dR):=hr;obtain⟨A,hA⟩:=nm ((jf (g0,g1) (Y,Z,r2,r3,K,O) (gV,fu)).getD dR);rw[←hA] at hr;have L9:=Kz hA;obtain⟨t0,V,t2,t3,rfl,rfl,-,Ma,Mc,Md⟩:=Ld hr;have Lm:=Kz (show pO (jf (g0,g1) (Y,Z,r2,r3,K,O) (gV,fu))=V by unfold pO;rw[←L9.o]);have y9:=Kz (I.o.trans J);clear hA hr;replace U:=J.keep U;replace ah:=J.keep ah;replace X:=J.keep X;replace ai:=J.keep ai;replace aj:=J.keep aj;replace ak:=J.keep ak;replace au:=J.keep au;replace ax:=J.keep ax;replace zg:=blk U;replace zr:=blk X;replace c2:=J.keep c2;replace c3:=J.keep c3;replace c4:=J.keep c4;replace c5:=J.keep c5;replace c6:=J.keep c6;replace c7:=J.keep c7;replace c8:=J.keep c8;replace zc:=blk c2;have LH:=Kz (gF.o.trans J);clear c0 c1 J;go_wp2_with fail;generalize hD:D0.alloc (.cells #[.string t0,.int .i64 V,.int .i64 t2,.bool t3] 144)=D;have J:Gr D0 D:=gb hD;have VA:=Kz (show az D D0.heap.size 144 [.string t0,.int .i64 V,.int .i64 t2,.bool t3] from by rw[←hD];exact az.new rfl);have a1:=VA.o.c 1;have za:=blk a1;replace U:=J.keep U;replace ah:=J.keep ah;replace X:=J.keep X;replace ai:=J.keep ai;replace aj:=J.keep aj;replace ak:=J.keep ak;replace au:=J.keep au;replace ax:=J.keep ax;replace zg:=blk U;replace zr:=blk X;replace c2:=J.keep c2;replace c3:=J.keep c3;replace c4:=J.keep c4;replace c5:=J.keep c5;replace c6:=J.keep c6;replace c7:=J.keep c7;replace c8:=J.keep c8;replace zc:=blk c2;have Ls:=Kz (LH.o.trans J);have Me:=Kz (bg.o.trans (y9.o.trans J));clear hD J;refine wg ?_
   iterate 8 (go_big_quiet_step (first|(go_at_call 179;refine aG (oO (g0,g1) (Y,Z,r2,r3,K,O) (gX,ik,kr,ku,ky,lq,oH) T _ (Rd.gr HG.o ?_) (Rd.gr HR.o ?_) (Rd.gr LY.o ?_) o5.o L6.o HT.o.symm)<;>exact Ls.o.trans gd)))
   refine wq fun nx=>?_
   by_cases he:T=V
   ·have heq:(T !=V)=false:=by simp[he]
    have zb:=Kz he;clear he;go_wp2_with fail;exact⟨⟨k+1,by omega,Kz (uo.o (by rw[←oL.o];exact(HT.o.symm.trans zb.o).trans Lm.o.symm)),Kz (tg Me),by go_num⟩,by simp[intOf];omega⟩
   ·have heq:(T !=V)=true:=by simpa using he
    have zb:=Kz he;clear he;go_wp2_with fail;go_ret;exact⟨aa (by rw[bV (show¬kW (g0,g1) (Y,Z,r2,r3,K,O) from fun h=>zb.o (by have h1:=h.1 _ q9.o;rw[←oL.o] at h1;exact(HT.o.trans h1).trans Lm.o))];rfl),Ls.o.trans gd⟩
  ·obtain rfl:k=K.length:=by omega
   rw[take_length] at HA;have Mf:=HA;clear HA;go_wp2_with fail;clear U ah X ai aj ak au ax zg zr
   go_loopw [42] (fun s5 wr=>∃k:Nat,k≤O.length∧Ky (∀c∈O.take k,dZ (g0,g1) (Y,Z,r2,r3,K,O) (d+1) c.2.2.1=4∧dZ (g0,g1) (Y,Z,r2,r3,K,O) (d+1) c.2.2.2=2∧((ek ((bW g0 c.1).getD dE).2 c.2.1).getD dR).2.2.1=3)∧Ky (Gr B wr)∧s5=.int .i64 k) (fun s5 _=>O.length - (intOf s5).toNat)
   case atStart=>exact⟨0,by omega,Kz (by simp),bg,rfl⟩
   case round=>
    clear bg o9 gT;obtain⟨k,hk,HA,bg,rfl⟩:=hrel
    rename World=>W2
    have gT:=Lj.o.trans bg.o;have o9:=Kz gT;have vg:=VG.o.gr bg.o;have vr:=VR.o.gr bg.o;obtain⟨U,ah⟩:=vg.c2;obtain⟨X,ai,aj,ak,au,ax⟩:=vr.c6;have zg:=blk U;have zr:=blk X;clear vg vr
    by_cases bq:k<O.length
    ·have uo:=Kz (fun h=>dD bq HA.o h)
     have q9:=Kz (getElem_mem bq);have qb:=dI aI O bq;obtain⟨b,off,rfl,q8⟩:=LG k bq;obtain⟨q0,q1,ay,bB,bH,bL,bR,bX,cB,aZ,cK,cO,dB,dS,dV,fe,ze,zf,ML,zl,zn,MM,LW,oL,LX,Mg,Mh,zo,zq,zu,zx,zy,zH,zL,Mr,Ms,zO,z8,A7,BM,EB,E5,FX,Mt,Mv,wF,wL,w9,xc,x9,yc,yu,y5,y7,Mi,LJ,LK,LM,LP,LQ,LU,y8⟩:=KW La bq gT
     have Mj:q0.size+q1.size+aS (ay,bB,bH,bL,bR,bX,cB)+aS (aZ,cK,cO,dB,dS,dV,fe)≤1048576:=by
      have h2:=HL.o;rw[←oL.o] at qb;have h3:aI ((q0,q1,(ay,bB,bH,bL,bR,bX,cB),(aZ,cK,cO,dB,dS,dV,fe)):aD d)=q0.size+q1.size+aS (ay,bB,bH,bL,bR,bX,cB)+aS (aZ,cK,cO,dB,dS,dV,fe):=rfl;omega
     have F4:=Kz (show aS (ay,bB,bH,bL,bR,bX,cB)≤1048576 by omega);have F5:=Kz (show aS (aZ,cK,cO,dB,dS,dV,fe)≤1048576 by omega);clear qb Mj;have F6:=Kz (bJ ay bB bH bL bR bX cB zo zq zu zx zy zH zL);have F8:=Kz (bJ aZ cK cO dB dS dV fe zO z8 A7 BM EB E5 FX);obtain⟨T2,Lv⟩:=nm (dZ (g0,g1) (Y,Z,r2,r3,K,O) (d+1) (ay,bB,bH,bL,bR,bX,cB));obtain⟨T3,Lx⟩:=nm (dZ (g0,g1) (Y,Z,r2,r3,K,O) (d+1) (aZ,cK,cO,dB,dS,dV,fe));have sO:=Kz Lv;have uf:=Kz Lx;have k0:(0:Int)≤(k:Int):=by omega
     have k1:(k:Int)<(O.length:Int):=by omega
     have iw:=zI1 k (by omega);clear gT Mg Mh zo zq zu zx zy zH zL zO z8 A7 BM EB E5 FX Lv Lx;go_wp2_with fail;generalize hC:(W2.alloc (.cells #[.string q0,.string q1,.int .i64 ay,.int .i64 bB,.int .i64 bH,.int .i64 bL,.string bR,.string bX,.slice ze cB.length zf,.int .i64 aZ,.int .i64 cK,.int .i64 cO,.int .i64 dB,.string dS,.string dV,.slice zl fe.length zn] 186))=C;have gC:Gr W2 C:=gb hC;have VC:=Kz (show az C W2.heap.size 186 [.string q0,.string q1,.int .i64 ay,.int .i64 bB,.int .i64 bH,.int .i64 bL,.string bR,.string bX,.slice ze cB.length zf,.int .i64 aZ,.int .i64 cK,.int .i64 cO,.int .i64 dB,.string dS,.string dV,.slice zl fe.length zn] from by rw[←hC];exact az.new rfl);have I:=Kz gC;clear hC gC;replace U:=I.o.keep U;replace ah:=I.o.keep ah;replace X:=I.o.keep X;replace ai:=I.o.keep ai;replace aj:=I.o.keep aj;replace ak:=I.o.keep ak;replace au:=I.o.keep au;replace ax:=I.o.keep ax;replace zg:=blk U;replace zr:=blk X;have gF:=Kz (o9.o.trans I.o);clear wF wL w9 xc x9 yc yu y5 y7 Mi LJ LK LM LP LQ LU y8;refine(dY (g0,g1) q0 _ (Rd.gr HG.o gF.o)).mono ?_;rintro e w' ⟨es,fq,rfl,hr,-,x1,rfl⟩;have J:Gr C (C.ext x1):=gd;generalize C.ext x1=D at hr J ⊢;obtain⟨s0,s1,LA,LB,M5,Ha,rfl,-,M6,M7,MN,MO⟩:=Lg (x:=(bW g0 q0).getD dE) hr;have Mk:=Kz Ha;have Ml:=Lt Ha hr;clear hr Ha;obtain⟨bb,q8⟩:∃b:Bool,b=(bW g0 q0).isSome:=⟨_,rfl⟩;rw[←q8];have M8:=Kz q8;clear q8;have vc:=VC.o.gr J;have c1:=vc.c 1;have zc:=blk c1;have y9:=Kz J;clear vc J;go_wp2_with fail;refine(jA (s0,s1) q1 _ (Rd.gr Ml.o gd)).mono ?_;rintro e w' ⟨es,fq,rfl,hr,-,x2,rfl⟩;have gE:Gr D ((D.alloc (.cells #[.string s0,.slice LA s1.length LB] 123)).ext x2):=gd;generalize(D.alloc (.cells #[.string s0,.slice LA s1.length LB] 123)).ext x2=E at hr gE ⊢;obtain⟨t0,t1,t2,t3,He,rfl,-,Ma,Mc,Md⟩:=Ld (x:=(ek s1 q1).getD dR) hr;have LC:=Kz He;have M9:=Lt He hr;clear hr He;obtain⟨cc,HV⟩:∃b:Bool,b=(ek s1 q1).isSome:=⟨_,rfl⟩;rw[←HV];have Mm:=Kz HV;clear HV;have LD:=Kz (show((ek ((bW g0 q0).getD dE).2 q1).getD dR).2.2.1=t2 by rw[←Mk.o];show((ek s1 q1).getD dR).2.2.1=t2;rw[←LC.o])
     have Na:=Kz (show cc=false→t2=0 from fun h=>by
      have h1:=Mm.o;rw[h] at h1;have h2:=LC.o
      cases hl:ek s1 q1 with
      |none=>rw[hl] at h2;exact congrArg (fun a:aQ=>a.2.2.1) h2
      |some a=>rw[hl] at h1;cases h1)
     have I:=Kz (y9.o.trans gE);have ae:=Kz (gF.o.trans I.o);have LV:=Kz (bg.o.trans (show Gr W2 E from(by assumption:Ky (Gr W2 C)).o.trans I.o));clear c1 zc gE;replace U:=I.o.keep U;replace ah:=I.o.keep ah;replace X:=I.o.keep X;replace ai:=I.o.keep ai;replace aj:=I.o.keep aj;replace ak:=I.o.keep ak;replace au:=I.o.keep au;replace ax:=I.o.keep ax;replace zg:=blk U;replace zr:=blk X;have vc:=VC.o.gr I.o;have c2:=vc.c 2;have c3:=vc.c 3;have c4:=vc.c 4;have c5:=vc.c 5;have c6:=vc.c 6;have c7:=vc.c 7;have c8:=vc.c 8;have c9:=vc.c 9;have c10:=vc.c 10;have c11:=vc.c 11;have c12:=vc.c 12;have c13:=vc.c 13;have c14:=vc.c 14;have c15:=vc.c 15;have zc:=blk c2;clear vc
     by_cases hp:t2=3∧T2=4∧T3=2
     ·obtain⟨rfl,rfl,rfl⟩:=hp
      go_wp2_with (first|(go_at_call_of 179 ay;refine(oO (g0,g1) (Y,Z,r2,r3,K,O) (ay,bB,bH,bL,bR,bX,cB) 4 _ (Rd.gr HG.o (tg ae)) (Rd.gr HR.o (tg ae)) (Rd.gr F6.o (tg ae)) o5.o F4.o sO.o.symm).mono ?_;rintro e w' ⟨rfl,x5,rfl⟩)|(go_at_call_of 179 aZ;refine(oO (g0,g1) (Y,Z,r2,r3,K,O) (aZ,cK,cO,dB,dS,dV,fe) 2 _ (Rd.gr HG.o (tg ae)) (Rd.gr HR.o (tg ae)) (Rd.gr F8.o (tg ae)) o5.o F5.o uf.o.symm).mono ?_;rintro e w' ⟨rfl,x6,rfl⟩))
      exact⟨⟨k+1,by omega,Kz (uo.o (by rw[←oL.o];exact⟨sO.o.symm,uf.o.symm,LD.o⟩)),Kz (tg LV),by go_num⟩,by simp[intOf];omega⟩
     ·have HP:=Kz hp
      have HF:=Kz (bV (show¬kW (g0,g1) (Y,Z,r2,r3,K,O) from fun h=>HP.o (by
       have h1:=h.2 _ q9.o;rw[←oL.o] at h1;have h3:t2=3:=LD.o.symm.trans h1.2.2;exact⟨h3,sO.o.trans h1.1,uf.o.trans h1.2.1⟩)))
      clear hp
      go_wp2_with (first|(go_at_call_of 179 ay;refine(oO (g0,g1) (Y,Z,r2,r3,K,O) (ay,bB,bH,bL,bR,bX,cB) T2 _ (Rd.gr HG.o (tg ae)) (Rd.gr HR.o (tg ae)) (Rd.gr F6.o (tg ae)) o5.o F4.o sO.o.symm).mono ?_;rintro e w' ⟨rfl,x5,rfl⟩)|(go_at_call_of 179 aZ;refine(oO (g0,g1) (Y,Z,r2,r3,K,O) (aZ,cK,cO,dB,dS,dV,fe) T3 _ (Rd.gr HG.o (tg ae)) (Rd.gr HR.o (tg ae)) (Rd.gr F8.o (tg ae)) o5.o F5.o uf.o.symm).mono ?_;rintro e w' ⟨rfl,x6,rfl⟩))
      go_ways
      all_goals first
       |(go_ret;exact⟨aa (by rw[HF.o];rfl),ae.o.trans gd⟩)
       |(exfalso;refine HP.o ⟨?_,?_,?_⟩<;>first|assumption|(simp_all;done)|(simp_all;omega))
      
    ·obtain rfl:k=O.length:=by omega
     rw[take_length] at HA;go_wp2_with fail;go_ret;exact⟨aa (by rw[bQ (show kW (g0,g1) (Y,Z,r2,r3,K,O) from⟨Mf.o,HA.o⟩)];rfl),o9.o⟩
end Go.Proofs.YtleafadpfeibfaaGreat
