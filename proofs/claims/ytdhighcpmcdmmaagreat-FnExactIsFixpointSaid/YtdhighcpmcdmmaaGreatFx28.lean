/- Contracts and laws towards ReadsOf, part 32 of 54. No condition. -/
import Derived.Test.YtdhighcpmcdmmaaGreatFx26
import Derived.Test.YtdhighcpmcdmmaaGreatFx27
set_option maxHeartbeats 32000000
set_option maxRecDepth 10000
set_option linter.unusedVariables false
set_option linter.unusedSimpArgs false
namespace Go.Proofs.YtdhighcpmcdmmaaGreat
open Go.RowKit
variable{d:Nat}
variable{n:Nat}{fg fr:List Nat}{cg cr:Array Value}
theorem KP{fx:List Nat}{cx:Array Value}(g:af d)(r:aW d)(x:aA n)(w:World)(hE:TyC g r n)(hg:Rd.rd fg w cg.toList g)(hr:Rd.rd fr w cr.toList r)(hx:Rd.rd fx w cx.toList x)(hl:aP g≤1048576)(hk:x.1=8):
  Qz 232 #[.agg cg,.agg cr,.agg cx] w (.int .i64 (dZ g r (n+1) x)):=by
 have j4:=Kz hl;have HE:=Kz hE;clear hE hl;have HG:=Kz hg;obtain⟨D,E,ah,ai,mh,aj,au,mo,rfl,rfl,-,mq,kT,kV,mr,kX,kZ⟩:=yt hg;clear hg;have HR:=Kz hr;obtain⟨Y,Z,r2,r3,r4,r5,ax,ay,mH,aL,aN,mZ,aS,aV,nz,rfl,rfl,-,nM,nO,nP,lq,lG,nS,lV,l5,nZ,l6,l7⟩:=KV hr;clear hr;obtain⟨q0,q1,q2,q3,q4,q5,q6,I,J,oh,rfl,rfl,-,oo,oq,ow,oz,oG,oH,gm,l8,ma⟩:=KU hx;have jX:=gm.op3;have j5:=Kz gm;clear hx;obtain⟨gD,ae⟩:=nm (dZ (D,E) (Y,Z,r2,r3,r4,r5) (n+1) ((q0,q1,q2,q3,q4,q5,q6):aA n));rw[←ae];obtain rfl:q0=8:=hk;have aZ:=Kz ae;clear ae
 by_cases hlen:q6.length=1
 ·obtain⟨a,hq⟩:∃a,q6=[a]:=by
   match q6,hlen with
   |[a],_=>exact⟨a,rfl⟩
  have oK:(q6.length:Int)=1:=by omega
  have ku:0<q6.length:=by omega
  have Ha:=Kz (show q6[0]'(ku)=a by simp[hq]);have ky:=Kz hq;clear hq hlen
  obtain⟨n1,rfl⟩:∃m,n=m+1:=by
   cases n with
   |zero=>exact PEmpty.elim a
   |succ m=>exact⟨m,rfl⟩
  delta Qz;go_in;go_wp2_with fail;generalize H:((((w.alloc (.cells #[.slice ah D.length ai,.slice aj E.length au] 36)).alloc (.cells #[.string Y,.string Z,.slice ax r2.length ay,.bool r3,.slice aL r4.length aN,.slice aS r5.length aV] 112)).alloc (.cells #[.int .i64 8,.int .i64 q1,.int .i64 q2,.int .i64 q3,.string q4,.string q5,.slice I q6.length J] 115)))=B;have gB:Gr w B:=gb H;have VG:=Kz (show az B w.heap.size 36 [.slice ah D.length ai,.slice aj E.length au] from by rw[←H];exact kv);have VR:=Kz (show az B (w.heap.size+1) 112 [.string Y,.string Z,.slice ax r2.length ay,.bool r3,.slice aL r4.length aN,.slice aS r5.length aV] from by rw[←H];exact kv);have VX:=Kz (show az B (w.heap.size+1+1) 115 [.int .i64 8,.int .i64 q1,.int .i64 q2,.int .i64 q3,.string q4,.string q5,.slice I q6.length J] from by rw[←H];exact kv);have bg:=Kz (show az B (w.heap.size+2) 115 [.int .i64 8,.int .i64 q1,.int .i64 q2,.int .i64 q3,.string q4,.string q5,.slice I q6.length J] from VX.o);have q:=Kz gB;clear H gB;obtain⟨b,off,rfl,hb⟩:=jX 0 (by omega);obtain⟨bq,gF,s,K,-⟩:=j5.o.at (i:=0) (by omega);have K:Rd.rd (α:=aA n1) gF w bq a:=by rw[←Ha.o];exact K
  obtain⟨yp,hyp⟩:∃y:aA n1,y=a:=⟨_,rfl⟩;rw[←hyp] at K;have kz:=Kz hyp;have gH:=Kz K;obtain⟨p0,p1,p2,p3,p4,p5,p6⟩:=yp;obtain⟨oL,oN,bB,-,-,-,-,-,-,-,gM⟩:=aF (cs:=bq.toArray) p0 p1 p2 p3 p4 p5 p6 (show Rd.rd (α:=aA n1) gF w bq.toArray.toList _ from K);obtain rfl:=toL bB;obtain⟨kE,kL,rfl,-,-,-⟩:=gM.open;have kQ:=q.o.keep (show w.cell? ⟨b,off,none⟩=some (.int .i64 p0) from by simpa[Rd.n] using s 0 _ rfl);have oV:=q.o.keep (show w.cell? ⟨b,off+1,none⟩=some (.int .i64 p1) from by simpa[Rd.n] using s 1 _ rfl);have oW:=q.o.keep (show w.cell? ⟨b,off+2,none⟩=some (.int .i64 p2) from by simpa[Rd.n] using s 2 _ rfl);have o9:=q.o.keep (show w.cell? ⟨b,off+3,none⟩=some (.int .i64 p3) from by simpa[Rd.n] using s 3 _ rfl);have pG:=q.o.keep (show w.cell? ⟨b,off+4,none⟩=some (.string p4) from by simpa[Rd.n] using s 4 _ rfl);have pM:=q.o.keep (show w.cell? ⟨b,off+5,none⟩=some (.string p5) from by simpa[Rd.n] using s 5 _ rfl);have pR:=q.o.keep (show w.cell? ⟨b,off+6,none⟩=some (.slice kE p6.length kL) from by simpa[Rd.n] using s 6 _ rfl);have pV:=blk kQ;clear bB s K hyp gM;obtain⟨O,bD⟩:=(VG.o).c2;have gT:=blk O;obtain⟨T,bH,bK,bL,bN,bV⟩:=(VR.o).c6;have ik:=blk T;obtain⟨U,cK,cO,dz,dA,dC,dG⟩:=(VX.o).c7;have iw:=blk U;obtain⟨X,dL,dU,dW,eH,fe,fu⟩:=(bg.o).c7;have jN:=blk X;obtain⟨V1,fw⟩:=nm (dZ (D,E) (Y,Z,r2,r3,r4,r5) (n1+1) (p0,p1,p2,p3,p4,p5,p6));have H1:=Kz fw.symm
  have HF:=Kz (show gD=if V1=4 then xD (D,E) q4 q5 else 0 by
   rw[aZ.o,ky.o]
   show(if _ then _ else _)=_
   rw[←kz.o,fw];rfl)
  clear fw
  by_cases h1:V1=4
  ·subst h1
   refine wg ?_
   iterate 14 (go_big_quiet_step ((go_at_call_of 232 p0;refine aG (vT HE.o (D,E) (Y,Z,r2,r3,r4,r5) (p0,p1,p2,p3,p4,p5,p6) _ (Rd.gr HG.o ?_) (Rd.gr HR.o ?_) (Rd.gr gH.o ?_) H1.o)<;>exact q.o.trans gd)))
   refine wq fun nx=>?_
   go_wp2_with fail;obtain⟨B2,fA⟩:=nm (B.ext nx);have h:Gr B B2:=by rw[fA];exact gd
   rw[←fA];clear fA;have fK:=Kz (q.o.trans h);replace O:=h.keep O;replace bD:=h.keep bD;replace gT:=blk O;replace T:=h.keep T;replace bH:=h.keep bH;replace bK:=h.keep bK;replace bL:=h.keep bL;replace bN:=h.keep bN;replace bV:=h.keep bV;replace ik:=blk T;replace U:=h.keep U;replace cK:=h.keep cK;replace cO:=h.keep cO;replace dz:=h.keep dz;replace dA:=h.keep dA;replace dC:=h.keep dC;replace dG:=h.keep dG;replace iw:=blk U;replace X:=h.keep X;replace dL:=h.keep dL;replace dU:=h.keep dU;replace dW:=h.keep dW;replace eH:=h.keep eH;replace fe:=h.keep fe;replace fu:=h.keep fu;replace jN:=blk X;obtain⟨V,hV⟩:=nm (xD (D,E) q4 q5);have HV:=Kz hV;clear hV
   go_wp2_with (first|(go_at_call 233;refine(uJ (D,E) q4 q5 _ (Rd.gr HG.o (tg fK)) j4.o).mono ?_;rintro e w' ⟨rfl,x5,rfl⟩;rw[←HV.o]))
   go_ret;exact⟨by rw[HF.o,←HV.o];simp,fK.o.trans gd⟩
  ·have p9:(V1==4)=false:=by simpa using h1
   refine wg ?_
   iterate 14 (go_big_quiet_step ((go_at_call_of 232 p0;refine aG (vT HE.o (D,E) (Y,Z,r2,r3,r4,r5) (p0,p1,p2,p3,p4,p5,p6) _ (Rd.gr HG.o ?_) (Rd.gr HR.o ?_) (Rd.gr gH.o ?_) H1.o)<;>exact q.o.trans gd)))
   refine wq fun nx=>?_
   go_wp2_with fail;go_ret;exact⟨by rw[HF.o,if_neg h1];rfl,q.o.trans gd⟩
 ·have kS:¬((q6.length:Int)=1):=by omega
  have mf:((q6.length:Int)==1)=false:=by simpa using kS
  have HF:=Kz (show gD=0 from by
   rw[aZ.o]
   show(match q6 with|[a]=>_|_=>_)=_
   split
   ·simp at hlen
   ·rfl)
  clear hlen;delta Qz;go_in;go_wp2_with fail;generalize H:((((w.alloc (.cells #[.slice ah D.length ai,.slice aj E.length au] 36)).alloc (.cells #[.string Y,.string Z,.slice ax r2.length ay,.bool r3,.slice aL r4.length aN,.slice aS r5.length aV] 112)).alloc (.cells #[.int .i64 8,.int .i64 q1,.int .i64 q2,.int .i64 q3,.string q4,.string q5,.slice I q6.length J] 115)))=B;have gB:Gr w B:=gb H;have VG:=Kz (show az B w.heap.size 36 [.slice ah D.length ai,.slice aj E.length au] from by rw[←H];exact kv);have VR:=Kz (show az B (w.heap.size+1) 112 [.string Y,.string Z,.slice ax r2.length ay,.bool r3,.slice aL r4.length aN,.slice aS r5.length aV] from by rw[←H];exact kv);have VX:=Kz (show az B (w.heap.size+1+1) 115 [.int .i64 8,.int .i64 q1,.int .i64 q2,.int .i64 q3,.string q4,.string q5,.slice I q6.length J] from by rw[←H];exact kv);have bg:=Kz (show az B (w.heap.size+2) 115 [.int .i64 8,.int .i64 q1,.int .i64 q2,.int .i64 q3,.string q4,.string q5,.slice I q6.length J] from VX.o);have q:=Kz gB;clear H gB;obtain⟨O,bD⟩:=(VG.o).c2;have gT:=blk O;obtain⟨T,bH,bK,bL,bN,bV⟩:=(VR.o).c6;have ik:=blk T;obtain⟨U,cK,cO,dz,dA,dC,dG⟩:=(VX.o).c7;have iw:=blk U;obtain⟨X,dL,dU,dW,eH,fe,fu⟩:=(bg.o).c7;have jN:=blk X;refine wg ?_
  iterate 14 (go_big_quiet_step (fail))
  refine wq fun nx=>?_
  go_wp2_with fail;go_ret;exact⟨by rw[HF.o];rfl,q.o.trans gd⟩
theorem NH{g:af d}{r:aW d}(q:aP g≤1048576)(s:TyC g r n):TyC g r (n+1):=by
 intro fg fr fx cg cr cx x w B D E
 by_cases h:1≤(x:aA n).1∧(x:aA n).1≤8
 ·have:(x:aA n).1=1∨(x:aA n).1=2∨(x:aA n).1=3∨(x:aA n).1=4∨(x:aA n).1=5∨(x:aA n).1=6∨(x:aA n).1=7∨(x:aA n).1=8:=by omega
  rcases this with h|h|h|h|h|h|h|h
  ·exact CK g r x w s B D E q h
  ·exact BQ g r x w s B D E q h
  ·exact Dk g r x w s B D E q h
  ·exact Cq g r x w s B D E q h
  ·exact CP g r x w s B D E q h
  ·exact Cm g r x w s B D E q h
  ·exact Dr g r x w s B D E q h
  ·exact KP g r x w s B D E q h
 ·exact Cz g r x w s B D E q h
theorem wC{g:af d}{r:aW d}(h:aP g≤1048576):(n:Nat)→TyC g r n
 |0=>by intro fg fr fx cg cr cx x;exact PEmpty.elim x
 |n+1=>NH h (wC h n)
theorem oJ{fx:List Nat}{cx:Array Value}(g:af d)(r:aW d)(x:aA n)(v:Int)(w:World)(q:Rd.rd fg w cg.toList g)(s:Rd.rd fr w cr.toList r)(B:Rd.rd fx w cx.toList x)(D:aP g≤1048576)(E:dZ g r (n+1) x=v):
  Qz 232 #[.agg cg,.agg cr,.agg cx] w (.int .i64 v):=by
 have h:=wC (g:=g) (r:=r) D (n+1) fg fr fx cg cr cx x w q s B;rw[E] at h;exact h
theorem yU(g:af d)(r:aW d)(w:World)(hg:Rd.rd fg w cg.toList g)(hr:Rd.rd fr w cr.toList r)(hl:aP g≤1048576)(oL:bF r≤1048576)(oN:∀q∈r.2.2.2.2.1,0≤q.1.1∧q.1.1≤(r.2.2.1.length:Int)):
  Qz 188 #[.agg cg,.agg cr] w (.bool (pB (kW g r))):=by
 have bq:=Kz hl;have um:=Kz oN;have HG:=Kz hg;obtain⟨J,O,oV,oW,xg,o9,pG,xR,rfl,rfl,-,xS,vU,vV,x9,vW,vX⟩:=yt hg;clear hg;have HR:=Kz hr;obtain⟨U,X,K,r3,H,I,pM,pR,yc,pV,p9,yf,qo,qD,yh,rfl,rfl,-,ym,yo,yu,wm,wz,qE,wF,wI,qG,wK,wN⟩:=KV hr;have rR:=qE.op3;have rT:=qG.op3;clear hr;have uq:U.size+X.size+wtL ByteArray.size K+wtL aU H+wtL aI I≤1048576:=oL;have yL:H.length≤1048576:=by have:=bT aU H;omega
 have yN:I.length≤1048576:=by have:=bT aI I;omega
 clear hl oL uq oN;delta Qz;go_in;go_wp2_with fail;generalize hB:(w.alloc (.cells #[.slice oV J.length oW,.slice o9 O.length pG] 36)).alloc (.cells #[.string U,.string X,.slice pM K.length pR,.bool r3,.slice pV H.length p9,.slice qo I.length qD] 112)=B;have gB:Gr w B:=gb hB;have VG:=Kz (show az B w.heap.size 36 [.slice oV J.length oW,.slice o9 O.length pG] from by rw[←hB];exact kv);have VR:=Kz (show az B (w.heap.size+1) 112 [.string U,.string X,.slice pM K.length pR,.bool r3,.slice pV H.length p9,.slice qo I.length qD] from by rw[←hB];exact kv);have qN:=Kz gB;clear hB gB
 go_loopw [5] (fun s5 wr=>∃k:Nat,k≤H.length∧Ky (∀q∈H.take k,dZ (J,O) (U,X,K,r3,H,I) (d+1) q.2=pO (jf (J,O) (U,X,K,r3,H,I) q.1))∧Ky (Gr B wr)∧s5=.int .i64 k) (fun s5 _=>H.length - (intOf s5).toNat)
 case atStart=>exact⟨0,by omega,Kz (by simp),Kz (Gr.refl _),rfl⟩
 case round=>
  obtain⟨k,hk,HA,ah,rfl⟩:=hrel
  rename World=>W1
  have au:=qN.o.trans ah.o;have dW:=Kz au;have vg:=VG.o.gr ah.o;have vr:=VR.o.gr ah.o;obtain⟨Y,ax⟩:=vg.c2;obtain⟨Z,ay,aL,aN,aS,aV⟩:=vr.c6;have zg:=blk Y;have zr:=blk Z;clear vg vr
  by_cases aj:k<H.length
  ·have jN:=Kz (fun h=>dD aj HA.o h)
   have dU:=Kz (List.getElem_mem aj);obtain⟨b,off,rfl,eH⟩:=rR k aj;obtain⟨bB,fe,fu,fw,fA,fK,gm,gF,gH,jX,j4,wO,uw,bD,uL,sw,sG,j5,ku,ky,kz,kE,kL,kQ,vF,vI,kS,kT,kV,kX,kZ,lq,lG,lV,l5,l6⟩:=KY qE aj au;have l7:0≤bB∧bB≤(K.length:Int):=by have h1:=um.o _ dU.o;rw[←bD.o] at h1;exact h1
   have uR:=Kz (bJ fu fw fA fK gm gF gH j5 ku ky kz kE kL kQ);obtain⟨S,hS⟩:=nm (j6 (U,X,K,r3,H,I) bB);obtain⟨V,hV⟩:=nm (xD (J,O) S fe);obtain⟨T,hT⟩:=nm (dZ (J,O) (U,X,K,r3,H,I) (d+1) (fu,fw,fA,fK,gm,gF,gH));have HS:=Kz hS;have HV:=Kz hV;have HT:=Kz hT;have qR:=Kz (show pO (jf (J,O) (U,X,K,r3,H,I) (bB,fe))=V by rw[rG l7,hV,hS];rfl);have k0:(0:Int)≤(k:Int):=by omega
   have k1:(k:Int)<(H.length:Int):=by omega
   have iw:=zI1 k (by omega);clear au sw sG j5 ku ky kz kE kL kQ l7 hS hV hT;go_wp2_with fail;generalize hC:(W1.alloc (.cells #[.int .i64 bB,.string fe,.int .i64 fu,.int .i64 fw,.int .i64 fA,.int .i64 fK,.string gm,.string gF,.slice jX gH.length j4] 134))=C;have gC:Gr W1 C:=gb hC;have VC:=Kz (show az C W1.heap.size 134 [.int .i64 bB,.string fe,.int .i64 fu,.int .i64 fw,.int .i64 fA,.int .i64 fK,.string gm,.string gF,.slice jX gH.length j4] from by rw[←hC];exact az.new rfl);have s:=Kz gC;clear hC gC;replace Y:=s.o.keep Y;replace ax:=s.o.keep ax;replace Z:=s.o.keep Z;replace ay:=s.o.keep ay;replace aL:=s.o.keep aL;replace aN:=s.o.keep aN;replace aS:=s.o.keep aS;replace aV:=s.o.keep aV;replace zg:=blk Y;replace zr:=blk Z;obtain⟨c0,c1,c2,c3,c4,c5,c6,c7,c8⟩:=VC.o.c9;have zc:=blk c0;have ai:=Kz (dW.o.trans s.o);clear kS kT kV kX kZ lq lG lV l5 l6;refine wg ?_
   iterate 16 (go_big_quiet_step (first|(go_at_call 184;refine aG (oP (U,X,K,r3,H,I) bB S _ (Rd.gr HR.o ?_) HS.o.symm)<;>exact ai.o.trans gd)|(go_at_call 233;refine aG (zY (J,O) S fe V _ (Rd.gr HG.o ?_) bq.o HV.o.symm)<;>exact ai.o.trans gd)|(go_at_call 232;refine aG (oJ (J,O) (U,X,K,r3,H,I) (fu,fw,fA,fK,gm,gF,gH) T _ (Rd.gr HG.o ?_) (Rd.gr HR.o ?_) (Rd.gr uR.o ?_) bq.o HT.o.symm)<;>exact ai.o.trans gd)))
   refine wq fun nx=>?_
   by_cases he:T=V
   ·have heq:(T !=V)=false:=by simp[he]
    have l8:=Kz he;clear he;go_wp2_with fail;exact⟨⟨k+1,by omega,Kz (jN.o (by rw[←bD.o];exact(HT.o.symm.trans l8.o).trans qR.o.symm)),Kz (ah.o.trans (tg s)),by go_num⟩,by simp[intOf];omega⟩
   ·have heq:(T !=V)=true:=by simpa using he
    have l8:=Kz he;clear he;go_wp2_with fail;go_ret;exact⟨aa (bz fun h=>l8.o (by have h1:=h.1 _ dU.o;rw[←bD.o] at h1;exact(HT.o.trans h1).trans qR.o)).symm,ai.o.trans gd⟩
  ·obtain rfl:k=H.length:=by omega
   rw[List.take_length] at HA;have uW:=HA;clear HA;go_wp2_with fail;clear Y ax Z ay aL aN aS aV zg zr
   go_loopw [7] (fun s5 wr=>∃k:Nat,k≤I.length∧Ky (∀c∈I.take k,dZ (J,O) (U,X,K,r3,H,I) (d+1) c.2.2.1=4∧dZ (J,O) (U,X,K,r3,H,I) (d+1) c.2.2.2=2∧((ek ((bW J c.1).getD dE).2 c.2.1).getD dR).2.2.1=3)∧Ky (Gr B wr)∧s5=.int .i64 k) (fun s5 _=>I.length - (intOf s5).toNat)
   case atStart=>exact⟨0,by omega,Kz (by simp),ah,rfl⟩
   case round=>
    clear ah dW au;obtain⟨k,hk,HA,ah,rfl⟩:=hrel
    rename World=>W2
    have au:=qN.o.trans ah.o;have dW:=Kz au;have vg:=VG.o.gr ah.o;have vr:=VR.o.gr ah.o;obtain⟨Y,ax⟩:=vg.c2;obtain⟨Z,ay,aL,aN,aS,aV⟩:=vr.c6;have zg:=blk Y;have zr:=blk Z;clear vg vr
    by_cases aj:k<I.length
    ·have jN:=Kz (fun h=>dD aj HA.o h)
     have dU:=Kz (List.getElem_mem aj);obtain⟨b,off,rfl,eH⟩:=rT k aj;obtain⟨q0,q1,aZ,bH,bK,bL,bN,bV,cK,bg,cO,dz,dA,dC,dG,dL,ma,mf,wP,mh,mo,wZ,uw,bD,uL,uZ,ve,mq,mr,mH,mZ,nz,nM,nO,vL,vN,nP,nS,nZ,oh,oo,oq,ow,vO,vR,kS,kT,kV,kX,kZ,lq,lG,lV,l5,vo,sH,sN,sO,sW,tJ,uh,l6⟩:=KW qG aj au;have oz:=Kz (bJ aZ bH bK bL bN bV cK mq mr mH mZ nz nM nO);have oG:=Kz (bJ bg cO dz dA dC dG dL nP nS nZ oh oo oq ow);obtain⟨T2,qV⟩:=nm (dZ (J,O) (U,X,K,r3,H,I) (d+1) (aZ,bH,bK,bL,bN,bV,cK));obtain⟨T3,qX⟩:=nm (dZ (J,O) (U,X,K,r3,H,I) (d+1) (bg,cO,dz,dA,dC,dG,dL));have gT:=Kz qV;have ik:=Kz qX;have k0:(0:Int)≤(k:Int):=by omega
     have k1:(k:Int)<(I.length:Int):=by omega
     have iw:=zI1 k (by omega);clear au uZ ve mq mr mH mZ nz nM nO nP nS nZ oh oo oq ow qV qX;go_wp2_with fail;generalize hC:(W2.alloc (.cells #[.string q0,.string q1,.int .i64 aZ,.int .i64 bH,.int .i64 bK,.int .i64 bL,.string bN,.string bV,.slice ma cK.length mf,.int .i64 bg,.int .i64 cO,.int .i64 dz,.int .i64 dA,.string dC,.string dG,.slice mh dL.length mo] 213))=C;have gC:Gr W2 C:=gb hC;have VC:=Kz (show az C W2.heap.size 213 [.string q0,.string q1,.int .i64 aZ,.int .i64 bH,.int .i64 bK,.int .i64 bL,.string bN,.string bV,.slice ma cK.length mf,.int .i64 bg,.int .i64 cO,.int .i64 dz,.int .i64 dA,.string dC,.string dG,.slice mh dL.length mo] from by rw[←hC];exact az.new rfl);have s:=Kz gC;clear hC gC;replace Y:=s.o.keep Y;replace ax:=s.o.keep ax;replace Z:=s.o.keep Z;replace ay:=s.o.keep ay;replace aL:=s.o.keep aL;replace aN:=s.o.keep aN;replace aS:=s.o.keep aS;replace aV:=s.o.keep aV;replace zg:=blk Y;replace zr:=blk Z;have ai:=Kz (dW.o.trans s.o);clear kS kT kV kX kZ lq lG lV l5 vo sH sN sO sW tJ uh l6;refine(dX (J,O) q0 _ (Rd.gr HG.o ai.o) bq.o).mono ?_;rintro e w' ⟨es,fq,rfl,hr,-,x1,rfl⟩;have gD:Gr C (C.ext x1):=gd;generalize C.ext x1=D at hr gD ⊢;obtain⟨s0,s1,rf,rq,yO,oH,rfl,-,yQ,yT,w9,xc⟩:=Lg (x:=(bW J q0).getD dE) hr;have vv:=Kz oH;have vB:=Lt oH hr;clear hr oH;obtain⟨bb,eH⟩:∃b:Bool,b=(bW J q0).isSome:=⟨_,rfl⟩;rw[←eH];have yX:=Kz eH;clear eH;have vc:=VC.o.gr gD;have c1:=vc.c 1;have zc:=blk c1;have vC:=Kz gD;clear vc gD;go_wp2_with fail;refine(jC (s0,s1) q1 _ (Rd.gr vB.o gd)).mono ?_;rintro e w' ⟨es,fq,rfl,hr,-,x2,rfl⟩;have gE:Gr D ((D.alloc (.cells #[.string s0,.slice rf s1.length rq] 104)).ext x2):=gd;generalize(D.alloc (.cells #[.string s0,.slice rf s1.length rq] 104)).ext x2=E at hr gE ⊢;obtain⟨t0,t1,t2,t3,oK,rfl,-,yY,y5,y7⟩:=Ld (x:=(ek s1 q1).getD dR) hr;have rD:=Kz oK;have y8:=Lt oK hr;clear hr oK;obtain⟨cc,gM⟩:∃b:Bool,b=(ek s1 q1).isSome:=⟨_,rfl⟩;rw[←gM];have vD:=Kz gM;clear gM;have rE:=Kz (show((ek ((bW J q0).getD dE).2 q1).getD dR).2.2.1=t2 by rw[←vv.o];show((ek s1 q1).getD dR).2.2.1=t2;rw[←rD.o])
     have vE:=Kz (show cc=false→t2=0 from fun h=>by
      have h1:=vD.o;rw[h] at h1;have h2:=rD.o
      cases hl:ek s1 q1 with
      |none=>rw[hl] at h2;exact congrArg (fun a:aQ=>a.2.2.1) h2
      |some a=>rw[hl] at h1;cases h1)
     have s:=Kz (vC.o.trans gE);have ae:=Kz (ai.o.trans s.o);have ui:=Kz (ah.o.trans (show Gr W2 E from(by assumption:Ky (Gr W2 C)).o.trans s.o));clear c1 zc gE;replace Y:=s.o.keep Y;replace ax:=s.o.keep ax;replace Z:=s.o.keep Z;replace ay:=s.o.keep ay;replace aL:=s.o.keep aL;replace aN:=s.o.keep aN;replace aS:=s.o.keep aS;replace aV:=s.o.keep aV;replace zg:=blk Y;replace zr:=blk Z;have vc:=VC.o.gr s.o;have c2:=vc.c 2;have c3:=vc.c 3;have c4:=vc.c 4;have c5:=vc.c 5;have c6:=vc.c 6;have c7:=vc.c 7;have c8:=vc.c 8;have c9:=vc.c 9;have c10:=vc.c 10;have c11:=vc.c 11;have c12:=vc.c 12;have c13:=vc.c 13;have c14:=vc.c 14;have c15:=vc.c 15;have zc:=blk c2;clear vc
     by_cases hp:cc=true∧t2=3∧T2=4∧T3=2
     ·obtain⟨rfl,rfl,rfl,rfl⟩:=hp
      go_wp2_with (first|(go_at_call_of 232 aZ;refine(oJ (J,O) (U,X,K,r3,H,I) (aZ,bH,bK,bL,bN,bV,cK) 4 _ (Rd.gr HG.o (tg ae)) (Rd.gr HR.o (tg ae)) (Rd.gr oz.o (tg ae)) bq.o gT.o.symm).mono ?_;rintro e w' ⟨rfl,x5,rfl⟩)|(go_at_call_of 232 bg;refine(oJ (J,O) (U,X,K,r3,H,I) (bg,cO,dz,dA,dC,dG,dL) 2 _ (Rd.gr HG.o (tg ae)) (Rd.gr HR.o (tg ae)) (Rd.gr oG.o (tg ae)) bq.o ik.o.symm).mono ?_;rintro e w' ⟨rfl,x6,rfl⟩))
      exact⟨⟨k+1,by omega,Kz (jN.o (by rw[←bD.o];exact⟨gT.o.symm,ik.o.symm,rE.o⟩)),Kz (tg ui),by go_num⟩,by simp[intOf];omega⟩
     ·have HP:=Kz hp
      have HF:=Kz (bz (show¬kW (J,O) (U,X,K,r3,H,I) from fun h=>HP.o (by
       have h1:=h.2 _ dU.o;rw[←bD.o] at h1;have h3:t2=3:=rE.o.symm.trans h1.2.2;refine⟨?_,h3,gT.o.trans h1.1,ik.o.trans h1.2.1⟩
       cases gM:cc with
       |true=>rfl
       |false=>have:=vE.o gM;omega)))
      clear hp
      go_wp2_with (first|(go_at_call_of 232 aZ;refine(oJ (J,O) (U,X,K,r3,H,I) (aZ,bH,bK,bL,bN,bV,cK) T2 _ (Rd.gr HG.o (tg ae)) (Rd.gr HR.o (tg ae)) (Rd.gr oz.o (tg ae)) bq.o gT.o.symm).mono ?_;rintro e w' ⟨rfl,x5,rfl⟩)|(go_at_call_of 232 bg;refine(oJ (J,O) (U,X,K,r3,H,I) (bg,cO,dz,dA,dC,dG,dL) T3 _ (Rd.gr HG.o (tg ae)) (Rd.gr HR.o (tg ae)) (Rd.gr oG.o (tg ae)) bq.o ik.o.symm).mono ?_;rintro e w' ⟨rfl,x6,rfl⟩))
      go_ways
      all_goals first
       |(go_ret;exact⟨aa HF.o.symm,ae.o.trans gd⟩)
       |(exfalso;refine HP.o ⟨?_,?_,?_,?_⟩<;>first|assumption|(simp_all;done)|(simp_all;omega))
      
    ·obtain rfl:k=I.length:=by omega
     rw[List.take_length] at HA;go_wp2_with fail;go_ret;exact⟨aa (bQ (show kW (J,O) (U,X,K,r3,H,I) from⟨uW.o,HA.o⟩)).symm,dW.o⟩
end Go.Proofs.YtdhighcpmcdmmaaGreat
