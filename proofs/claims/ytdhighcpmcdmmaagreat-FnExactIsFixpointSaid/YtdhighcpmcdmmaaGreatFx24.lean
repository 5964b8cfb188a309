/- Contracts and laws towards ReadsOf, part 24 of 54. No condition. -/
import Derived.Test.YtdhighcpmcdmmaaGreatFx22
import Derived.Test.YtdhighcpmcdmmaaGreatFx18
set_option maxHeartbeats 32000000
set_option maxRecDepth 10000
set_option linter.unusedVariables false
set_option linter.unusedSimpArgs false
namespace Go.Proofs.YtdhighcpmcdmmaaGreat
open Go.RowKit
variable{d:Nat}
variable{fg fr fx:List Nat}{cg cr cx:Array Value}{n:Nat}
def xD(g:af d)(s n:ByteArray):Int:=pO (ek ((bW g.1 s).getD dE).2 n)
theorem uJ(g:af d)(s n:ByteArray)(w:World)(T:Rd.rd fg w cg.toList g)(B:aP g≤1048576):
  Qz 233 #[.agg cg,.string s,.string n] w (.int .i64 (xD g s n)):=by
 have ae:=Kz B;clear B;have HG:=Kz T;obtain⟨D,g1,bg,bq,bB,bD,bH,bK,rfl,rfl,-,bL,ay,aL,bN,aN,aS⟩:=yt T;clear T;obtain⟨Y,E⟩:=nm ((bW D s).getD dE);obtain⟨R,U⟩:=nm (xD (D,g1) s n);rw[←U];have X:=Kz (show R=pO (ek Y.2 n) by rw[U,E];rfl);have ah:=Kz E;clear U E;delta Qz;go_in;go_wp2_with fail;refine(dX (D,g1) s _ (Rd.gr HG.o gd) ae.o).mono ?_;rintro e w' ⟨es,fq,rfl,q,-,x1,rfl⟩;obtain⟨s0,s1,bV,cK,cO,H,rfl,-,dz,dA,aV,aZ⟩:=Lg (x:=(bW D s).getD dE) q;have ai:=Kz H;have aj:=Lt H q;clear q H;obtain⟨bb,I⟩:∃b:Bool,b=(bW D s).isSome:=⟨_,rfl⟩;rw[←I];have dC:=Kz I;clear I;have E:Y=(s0,s1):=ah.o.trans ai.o.symm;subst E;go_wp2_with fail;refine(jC (s0,s1) n _ (Rd.gr aj.o gd)).mono ?_;rintro e w' ⟨es,fq,rfl,q,-,x2,rfl⟩;obtain⟨t0,t1,t2,t3,J,rfl,-,dG,dL,dU⟩:=Ld (x:=(ek s1 n).getD dR) q;have O:=Kz J;have dW:=Lt J q;clear q J;obtain⟨cc,K⟩:∃b:Bool,b=(ek s1 n).isSome:=⟨_,rfl⟩;rw[←K];have au:=Kz K;clear K;have HT:=Kz (show R=t1 by rw[X.o];unfold pO;rw[←O.o])
 have ax:=Kz (show cc=false→t1=0 from fun h=>by
  have Z:=au.o;rw[h] at Z;have h2:=O.o
  cases B:ek s1 n with
  |none=>rw[B] at h2;exact congrArg (fun a:aQ=>a.2.1) h2
  |some a=>rw[B] at Z;cases Z)
 cases cc with
 |true=>
  go_wp2_with fail;go_ret;exact⟨by rw[HT.o];rfl,gd⟩
 |false=>
  go_wp2_with fail;go_ret;exact⟨by rw[HT.o,ax.o (by simp)];rfl,gd⟩
def TyC(g:af d)(r:aW d)(n:Nat):Prop:=∀(fg fr fx:List Nat) (cg cr cx:Array Value) (x:GE n) (w:World) (h:Rd.rd fg w cg.toList g) (q:Rd.rd fr w cr.toList r) (s:Rd.rd fx w cx.toList x),
 Calls Tryz.prog 232 #[.agg cg,.agg cr,.agg cx] w fun e w'=>e=.returned (.int .i64 (dZ g r n x))∧Gr w w'
def KO(g:af d)(r:aW d){n:Nat}(q1:Int)(q6:List (GE n)):Int:=match q6 with|[a,b]=>if dZ g r n a=(opT q1).1∧dZ g r n b=(opT q1).2.1 then(opT q1).2.2 else 0|_=>0
def KN(g:af d)(r:aW d){n:Nat}(q6:List (GE n)):Int:=match q6 with|[a,b,c]=>if dZ g r n a=3∧dZ g r n b=dZ g r n c then dZ g r n b else 0|_=>0
theorem vT{g:af d}{r:aW d}(q:TyC g r n)(_:af d:=g)(_:aW d:=r)(x:GE n)(w:World)(s:Rd.rd fg w cg.toList g)(B:Rd.rd fr w cr.toList r)(D:Rd.rd fx w cx.toList x){v:Int}(E:dZ g r n x=v):
  Qz 232 #[.agg cg,.agg cr,.agg cx] w (.int .i64 v):=by
 have h:=q fg fr fx cg cr cx x w s B D;rw[E] at h;exact h
theorem CY(g:af d)(r:aW d)(x:aA n)(w:World)(hE:TyC g r n)(hg:Rd.rd fg w cg.toList g)(hr:Rd.rd fr w cr.toList r)(hx:Rd.rd fx w cx.toList x):
  Qz 275 #[.agg cg,.agg cr,.agg cx] w (.int .i64 (KO g r x.2.1 x.2.2.2.2.2.2)):=by
 have HG:=Kz hg;obtain⟨s,D,ay,aL,mZ,aN,aS,nz,rfl,rfl,-,nM,kZ,lq,nO,lG,lV⟩:=yt hg;clear hg;have HR:=Kz hr;obtain⟨E,H,I,J,K,O,aV,aZ,nP,bg,bq,nS,bB,bD,nZ,rfl,rfl,-,oh,oo,oq,l5,l6,ow,l7,l8,oz,ma,mf⟩:=KV hr;clear hr;obtain⟨q0,q1,q2,q3,q4,q5,q6,ae,ah,oG,rfl,rfl,-,oH,oK,oL,oN,oV,oW,fe,mh,mo⟩:=KU hx;have gH:=fe.op3;have fu:=Kz fe;clear hx
 show Calls _ _ _ _ fun e w'=>e=.returned (.int .i64 (KO (s,D) (E,H,I,J,K,O) q1 q6))∧Gr w w'
 have HE:=Kz hE;clear hE;obtain⟨bH,ax⟩:=nm (KO (s,D) (E,H,I,J,K,O) q1 q6);rw[←ax];have au:=Kz ax;clear ax;(try delta Qz);go_in;go_wp2_with fail;refine(uK q1 _).mono ?_;rintro e w' ⟨rfl,x1,rfl⟩;obtain⟨T,hT⟩:=nm (opT q1);rw[←hT];have HT:=Kz hT;obtain⟨T0,T1,T2⟩:=T;simp only;clear hT
 by_cases hlen:q6.length=2
 ·obtain⟨a,c,hq⟩:∃a c,q6=[a,c]:=by
   match q6,hlen with
   |[a,c],_=>exact⟨a,c,rfl⟩
  have o9:(q6.length:Int)=2:=by omega
  have gM:0<q6.length:=by omega
  have gT:1<q6.length:=by omega
  have Ha:=Kz (show q6[0]'(gM)=a by simp[hq]);have Hc:=Kz (show q6[1]'(gT)=c by simp[hq]);have bN:=Kz hq;clear hq hlen
  obtain⟨Z,rfl⟩:∃e,n=e+1:=by
   cases n with
   |zero=>exact PEmpty.elim a
   |succ e=>exact⟨e,rfl⟩
  go_wp2_with fail;generalize Y:((((w.alloc (.cells #[.slice ay s.length aL,.slice aN D.length aS] 36)).alloc (.cells #[.string E,.string H,.slice aV I.length aZ,.bool J,.slice bg K.length bq,.slice bB O.length bD] 112)).alloc (.cells #[.int .i64 q0,.int .i64 q1,.int .i64 q2,.int .i64 q3,.string q4,.string q5,.slice ae q6.length ah] 115))).ext x1=B;have gB:Gr w B:=gb Y;have VG:=Kz (show az B w.heap.size 36 [.slice ay s.length aL,.slice aN D.length aS] from by rw[←Y];exact kv);have VR:=Kz (show az B (w.heap.size+1) 112 [.string E,.string H,.slice aV I.length aZ,.bool J,.slice bg K.length bq,.slice bB O.length bD] from by rw[←Y];exact kv);have VX:=Kz (show az B (w.heap.size+1+1) 115 [.int .i64 q0,.int .i64 q1,.int .i64 q2,.int .i64 q3,.string q4,.string q5,.slice ae q6.length ah] from by rw[←Y];exact kv);have ik:=Kz (show az B (w.heap.size+2) 115 [.int .i64 q0,.int .i64 q1,.int .i64 q2,.int .i64 q3,.string q4,.string q5,.slice ae q6.length ah] from VX.o);have q:=Kz gB;clear Y gB;obtain⟨b,off,rfl,hb⟩:=gH 0 (by omega);obtain⟨bV,fw,U,ai,-⟩:=fu.o.at (i:=0) (by omega);have ai:Rd.rd (α:=aA Z) fw w bV a:=by rw[←Ha.o];exact ai
  obtain⟨yp,hyp⟩:∃y:aA Z,y=a:=⟨_,rfl⟩;rw[←hyp] at ai;have cK:=Kz hyp;have cO:=Kz ai;obtain⟨p0,p1,p2,p3,p4,p5,p6⟩:=yp;obtain⟨pG,pM,dz,-,-,-,-,-,-,-,fA⟩:=aF (cs:=bV.toArray) p0 p1 p2 p3 p4 p5 p6 (show Rd.rd (α:=aA Z) fw w bV.toArray.toList _ from ai);obtain rfl:=toL dz;obtain⟨iw,jN,rfl,-,-,-⟩:=fA.open;have jX:=q.o.keep (show w.cell? ⟨b,off,none⟩=some (.int .i64 p0) from by simpa[Rd.n] using U 0 _ rfl);have pR:=q.o.keep (show w.cell? ⟨b,off+1,none⟩=some (.int .i64 p1) from by simpa[Rd.n] using U 1 _ rfl);have pV:=q.o.keep (show w.cell? ⟨b,off+2,none⟩=some (.int .i64 p2) from by simpa[Rd.n] using U 2 _ rfl);have p9:=q.o.keep (show w.cell? ⟨b,off+3,none⟩=some (.int .i64 p3) from by simpa[Rd.n] using U 3 _ rfl);have qo:=q.o.keep (show w.cell? ⟨b,off+4,none⟩=some (.string p4) from by simpa[Rd.n] using U 4 _ rfl);have qD:=q.o.keep (show w.cell? ⟨b,off+5,none⟩=some (.string p5) from by simpa[Rd.n] using U 5 _ rfl);have qE:=q.o.keep (show w.cell? ⟨b,off+6,none⟩=some (.slice iw p6.length jN) from by simpa[Rd.n] using U 6 _ rfl);have qG:=blk jX;clear dz U ai hyp fA;obtain⟨dA,fK,X,aj,-⟩:=fu.o.at (i:=1) (by omega);have aj:Rd.rd (α:=aA Z) fK w dA c:=by rw[←Hc.o];exact aj
  obtain⟨ys,dC⟩:∃y:aA Z,y=c:=⟨_,rfl⟩;rw[←dC] at aj;have dG:=Kz dC;have gm:=Kz aj;obtain⟨s0,s1,s2,s3,s4,s5,s6⟩:=ys;obtain⟨qN,qR,dL,-,-,-,-,-,-,-,gD⟩:=aF (cs:=dA.toArray) s0 s1 s2 s3 s4 s5 s6 (show Rd.rd (α:=aA Z) fK w dA.toArray.toList _ from aj);obtain rfl:=toL dL;obtain⟨j4,j5,rfl,-,-,-⟩:=gD.open;have qV:=q.o.keep (show w.cell? ⟨b,off+7,none⟩=some (.int .i64 s0) from by simpa[Rd.n] using X 0 _ rfl);have qX:=q.o.keep (show w.cell? ⟨b,off+7+1,none⟩=some (.int .i64 s1) from by simpa[Rd.n] using X 1 _ rfl);have rf:=q.o.keep (show w.cell? ⟨b,off+7+2,none⟩=some (.int .i64 s2) from by simpa[Rd.n] using X 2 _ rfl);have rq:=q.o.keep (show w.cell? ⟨b,off+7+3,none⟩=some (.int .i64 s3) from by simpa[Rd.n] using X 3 _ rfl);have rD:=q.o.keep (show w.cell? ⟨b,off+7+4,none⟩=some (.string s4) from by simpa[Rd.n] using X 4 _ rfl);have rE:=q.o.keep (show w.cell? ⟨b,off+7+5,none⟩=some (.string s5) from by simpa[Rd.n] using X 5 _ rfl);have rR:=q.o.keep (show w.cell? ⟨b,off+7+6,none⟩=some (.slice j4 s6.length j5) from by simpa[Rd.n] using X 6 _ rfl);clear dL X aj dC gD;obtain⟨dU,ku⟩:=(VG.o).c2;have ky:=blk dU;obtain⟨dW,kz,kE,kL,kQ,kS⟩:=(VR.o).c6;have kT:=blk dW;have eH:=(VX.o).c 0;have kV:=(VX.o).c 6;have kX:=blk eH
  by_cases h1:dZ (s,D) (E,H,I,J,K,O) (Z+1) (p0,p1,p2,p3,p4,p5,p6)=T0
  ·by_cases h2:dZ (s,D) (E,H,I,J,K,O) (Z+1) (s0,s1,s2,s3,s4,s5,s6)=T1
   ·have H1:=Kz h1
    have H2:=Kz h2
    have HF:=Kz (show bH=T2 by
     rw[au.o,bN.o]
     show(if _∧_ then _ else _)=_
     rw[←cK.o,←dG.o,←HT.o];exact if_pos ⟨h1,h2⟩)
    clear h1 h2;refine wg ?_
    iterate 26 (go_big_quiet_step (first|(go_at_call_of 232 p0;refine aG (vT HE.o (s,D) (E,H,I,J,K,O) (p0,p1,p2,p3,p4,p5,p6) _ (Rd.gr HG.o ?_) (Rd.gr HR.o ?_) (Rd.gr cO.o ?_) H1.o)<;>exact q.o.trans gd)|(go_at_call_of 232 s0;refine aG (vT HE.o (s,D) (E,H,I,J,K,O) (s0,s1,s2,s3,s4,s5,s6) _ (Rd.gr HG.o ?_) (Rd.gr HR.o ?_) (Rd.gr gm.o ?_) H2.o)<;>exact q.o.trans gd)))
    refine wq fun nx=>?_
    go_wp2_with fail;go_ret;exact⟨by rw[HF.o];rfl,q.o.trans gd⟩
   ·obtain⟨V2,bK⟩:=nm (dZ (s,D) (E,H,I,J,K,O) (Z+1) (s0,s1,s2,s3,s4,s5,s6))
    rw[←bK] at h2;have H1:=Kz h1;have H2:=Kz bK.symm
    have HF:=Kz (show bH=0 by
     rw[au.o,bN.o]
     show(if _∧_ then _ else _)=_
     rw[←cK.o,←dG.o,←HT.o];exact if_neg fun h=>h2 (bK.trans h.2))
    have rT:(V2==T1)=false:=by simpa using h2
    clear h1 bK;refine wg ?_
    iterate 26 (go_big_quiet_step (first|(go_at_call_of 232 p0;refine aG (vT HE.o (s,D) (E,H,I,J,K,O) (p0,p1,p2,p3,p4,p5,p6) _ (Rd.gr HG.o ?_) (Rd.gr HR.o ?_) (Rd.gr cO.o ?_) H1.o)<;>exact q.o.trans gd)|(go_at_call_of 232 s0;refine aG (vT HE.o (s,D) (E,H,I,J,K,O) (s0,s1,s2,s3,s4,s5,s6) _ (Rd.gr HG.o ?_) (Rd.gr HR.o ?_) (Rd.gr gm.o ?_) H2.o)<;>exact q.o.trans gd)))
    refine wq fun nx=>?_
    go_wp2_with fail;go_ret;exact⟨by rw[HF.o];rfl,q.o.trans gd⟩
  ·obtain⟨V1,bL⟩:=nm (dZ (s,D) (E,H,I,J,K,O) (Z+1) (p0,p1,p2,p3,p4,p5,p6))
   rw[←bL] at h1;have H1:=Kz bL.symm
   have HF:=Kz (show bH=0 by
    rw[au.o,bN.o]
    show(if _∧_ then _ else _)=_
    rw[←cK.o,←dG.o,←HT.o];exact if_neg fun h=>h1 (bL.trans h.1))
   have mq:(V1 !=T0)=true:=by simpa using h1
   clear bL;refine wg ?_
   iterate 26 (go_big_quiet_step ((go_at_call_of 232 p0;refine aG (vT HE.o (s,D) (E,H,I,J,K,O) (p0,p1,p2,p3,p4,p5,p6) _ (Rd.gr HG.o ?_) (Rd.gr HR.o ?_) (Rd.gr cO.o ?_) H1.o)<;>exact q.o.trans gd)))
   refine wq fun nx=>?_
   go_wp2_with fail;go_ret;exact⟨by rw[HF.o];rfl,q.o.trans gd⟩
 ·have gF:¬((q6.length:Int)=2):=by omega
  have mr:((q6.length:Int)==2)=false:=by simpa using gF
  have mH:((q6.length:Int)!=2)=true:=by simpa using gF
  have HF:=Kz (show bH=0 from by
   rw[au.o];unfold KO
   split
   ·simp at hlen
   ·rfl)
  clear hlen;go_wp2_with fail;generalize Y:((((w.alloc (.cells #[.slice ay s.length aL,.slice aN D.length aS] 36)).alloc (.cells #[.string E,.string H,.slice aV I.length aZ,.bool J,.slice bg K.length bq,.slice bB O.length bD] 112)).alloc (.cells #[.int .i64 q0,.int .i64 q1,.int .i64 q2,.int .i64 q3,.string q4,.string q5,.slice ae q6.length ah] 115))).ext x1=B;have gB:Gr w B:=gb Y;have VG:=Kz (show az B w.heap.size 36 [.slice ay s.length aL,.slice aN D.length aS] from by rw[←Y];exact kv);have VR:=Kz (show az B (w.heap.size+1) 112 [.string E,.string H,.slice aV I.length aZ,.bool J,.slice bg K.length bq,.slice bB O.length bD] from by rw[←Y];exact kv);have VX:=Kz (show az B (w.heap.size+1+1) 115 [.int .i64 q0,.int .i64 q1,.int .i64 q2,.int .i64 q3,.string q4,.string q5,.slice ae q6.length ah] from by rw[←Y];exact kv);have ik:=Kz (show az B (w.heap.size+2) 115 [.int .i64 q0,.int .i64 q1,.int .i64 q2,.int .i64 q3,.string q4,.string q5,.slice ae q6.length ah] from VX.o);have q:=Kz gB;clear Y gB;obtain⟨dU,ku⟩:=(VG.o).c2;have ky:=blk dU;obtain⟨dW,kz,kE,kL,kQ,kS⟩:=(VR.o).c6;have kT:=blk dW;have eH:=(VX.o).c 0;have kV:=(VX.o).c 6;have kX:=blk eH;refine wg ?_
  iterate 26 (go_big_quiet_step (fail))
  refine wq fun nx=>?_
  go_wp2_with fail;go_ret;exact⟨by rw[HF.o];rfl,q.o.trans gd⟩
theorem Cv(g:af d)(r:aW d)(x:aA n)(w:World)(hE:TyC g r n)(hg:Rd.rd fg w cg.toList g)(hr:Rd.rd fr w cr.toList r)(hx:Rd.rd fx w cx.toList x):
  Qz 276 #[.agg cg,.agg cr,.agg cx] w (.int .i64 (KN g r x.2.2.2.2.2.2)):=by
 have HG:=Kz hg;obtain⟨U,X,kS,kT,sH,kV,kX,sN,rfl,rfl,-,sO,qE,qG,sW,qN,qR⟩:=yt hg;clear hg;have HR:=Kz hr;obtain⟨Y,Z,r2,r3,r4,r5,kZ,lq,tJ,lG,lV,uh,l5,l6,ui,rfl,rfl,-,um,uq,uw,qV,qX,uL,rf,rq,uR,rD,rE⟩:=KV hr;clear hr;obtain⟨q0,q1,q2,q3,q4,q5,q6,fu,fw,uW,rfl,rfl,-,uZ,ve,vo,vv,vB,vC,l7,rR,rT⟩:=KU hx;have oq:=l7.op3;have fA:=Kz l7;clear hx
 show Calls _ _ _ _ fun e w'=>e=.returned (.int .i64 (KN (U,X) (Y,Z,r2,r3,r4,r5) q6))∧Gr w w'
 have HE:=Kz hE;clear hE;obtain⟨l8,dz⟩:=nm (KN (U,X) (Y,Z,r2,r3,r4,r5) q6);rw[←dz];have fK:=Kz dz;clear dz;(try delta Qz);go_in;go_wp2_with fail;generalize hB:((((w.alloc (.cells #[.slice kS U.length kT,.slice kV X.length kX] 36)).alloc (.cells #[.string Y,.string Z,.slice kZ r2.length lq,.bool r3,.slice lG r4.length lV,.slice l5 r5.length l6] 112)).alloc (.cells #[.int .i64 q0,.int .i64 q1,.int .i64 q2,.int .i64 q3,.string q4,.string q5,.slice fu q6.length fw] 115)))=B;have gB:Gr w B:=gb hB;have VG:=Kz (show az B w.heap.size 36 [.slice kS U.length kT,.slice kV X.length kX] from by rw[←hB];exact kv);have VR:=Kz (show az B (w.heap.size+1) 112 [.string Y,.string Z,.slice kZ r2.length lq,.bool r3,.slice lG r4.length lV,.slice l5 r5.length l6] from by rw[←hB];exact kv);have VX:=Kz (show az B (w.heap.size+1+1) 115 [.int .i64 q0,.int .i64 q1,.int .i64 q2,.int .i64 q3,.string q4,.string q5,.slice fu q6.length fw] from by rw[←hB];exact kv);have ma:=Kz (show az B (w.heap.size+2) 115 [.int .i64 q0,.int .i64 q1,.int .i64 q2,.int .i64 q3,.string q4,.string q5,.slice fu q6.length fw] from VX.o);have q:=Kz gB;clear hB gB
 by_cases hlen:q6.length=3
 ·obtain⟨a,c,e,hq⟩:∃a c e,q6=[a,c,e]:=by
   match q6,hlen with
   |[a,c,e],_=>exact⟨a,c,e,rfl⟩
  have vD:(q6.length:Int)=3:=by omega
  have oz:0<q6.length:=by omega
  have oG:1<q6.length:=by omega
  have dA:2<q6.length:=by omega
  have Ha:=Kz (show q6[0]'(oz)=a by simp[hq]);have Hc:=Kz (show q6[1]'(oG)=c by simp[hq]);have He:=Kz (show q6[2]'(dA)=e by simp[hq]);have oH:=Kz hq;clear hq hlen
  obtain⟨n1,rfl⟩:∃m,n=m+1:=by
   cases n with
   |zero=>exact PEmpty.elim a
   |succ m=>exact⟨m,rfl⟩
  obtain⟨b,off,rfl,hb⟩:=oq 0 (by omega);obtain⟨gm,mf,K,ah,-⟩:=fA.o.at (i:=0) (by omega);have ah:Rd.rd (α:=aA n1) mf w gm a:=by rw[←Ha.o];exact ah
  obtain⟨yp,hyp⟩:∃y:aA n1,y=a:=⟨_,rfl⟩;rw[←hyp] at ah;have oK:=Kz hyp;have mh:=Kz ah;obtain⟨p0,p1,p2,p3,p4,p5,p6⟩:=yp;obtain⟨vE,vF,gD,-,-,-,-,-,-,-,mo⟩:=aF (cs:=gm.toArray) p0 p1 p2 p3 p4 p5 p6 (show Rd.rd (α:=aA n1) mf w gm.toArray.toList _ from ah);obtain rfl:=toL gD;obtain⟨oL,oN,rfl,-,-,-⟩:=mo.open;have oV:=q.o.keep (show w.cell? ⟨b,off,none⟩=some (.int .i64 p0) from by simpa[Rd.n] using K 0 _ rfl);have vI:=q.o.keep (show w.cell? ⟨b,off+1,none⟩=some (.int .i64 p1) from by simpa[Rd.n] using K 1 _ rfl);have vL:=q.o.keep (show w.cell? ⟨b,off+2,none⟩=some (.int .i64 p2) from by simpa[Rd.n] using K 2 _ rfl);have vN:=q.o.keep (show w.cell? ⟨b,off+3,none⟩=some (.int .i64 p3) from by simpa[Rd.n] using K 3 _ rfl);have vO:=q.o.keep (show w.cell? ⟨b,off+4,none⟩=some (.string p4) from by simpa[Rd.n] using K 4 _ rfl);have vR:=q.o.keep (show w.cell? ⟨b,off+5,none⟩=some (.string p5) from by simpa[Rd.n] using K 5 _ rfl);have vU:=q.o.keep (show w.cell? ⟨b,off+6,none⟩=some (.slice oL p6.length oN) from by simpa[Rd.n] using K 6 _ rfl);have vV:=blk oV;clear gD K ah hyp mo;obtain⟨gF,mq,O,ai,-⟩:=fA.o.at (i:=1) (by omega);have ai:Rd.rd (α:=aA n1) mq w gF c:=by rw[←Hc.o];exact ai
  obtain⟨ys,gH⟩:∃y:aA n1,y=c:=⟨_,rfl⟩;rw[←gH] at ai;have oW:=Kz gH;have o9:=Kz ai;obtain⟨s0,s1,s2,s3,s4,s5,s6⟩:=ys;obtain⟨vW,vX,gM,-,-,-,-,-,-,-,mr⟩:=aF (cs:=gF.toArray) s0 s1 s2 s3 s4 s5 s6 (show Rd.rd (α:=aA n1) mq w gF.toArray.toList _ from ai);obtain rfl:=toL gM;obtain⟨pG,pM,rfl,-,-,-⟩:=mr.open;have dC:=q.o.keep (show w.cell? ⟨b,off+7,none⟩=some (.int .i64 s0) from by simpa[Rd.n] using O 0 _ rfl);have mH:=q.o.keep (show w.cell? ⟨b,off+7+1,none⟩=some (.int .i64 s1) from by simpa[Rd.n] using O 1 _ rfl);have mZ:=q.o.keep (show w.cell? ⟨b,off+7+2,none⟩=some (.int .i64 s2) from by simpa[Rd.n] using O 2 _ rfl);have nz:=q.o.keep (show w.cell? ⟨b,off+7+3,none⟩=some (.int .i64 s3) from by simpa[Rd.n] using O 3 _ rfl);have nM:=q.o.keep (show w.cell? ⟨b,off+7+4,none⟩=some (.string s4) from by simpa[Rd.n] using O 4 _ rfl);have nO:=q.o.keep (show w.cell? ⟨b,off+7+5,none⟩=some (.string s5) from by simpa[Rd.n] using O 5 _ rfl);have nP:=q.o.keep (show w.cell? ⟨b,off+7+6,none⟩=some (.slice pG s6.length pM) from by simpa[Rd.n] using O 6 _ rfl);have pR:=blk dC;clear gM O ai gH mr;obtain⟨gT,nS,T,aj,-⟩:=fA.o.at (i:=2) (by omega);have aj:Rd.rd (α:=aA n1) nS w gT e:=by rw[←He.o];exact aj
  obtain⟨yu,ik⟩:∃y:aA n1,y=e:=⟨_,rfl⟩;rw[←ik] at aj;have pV:=Kz ik;have nZ:=Kz aj;obtain⟨u0,u1,u2,u3,u4,u5,u6⟩:=yu;obtain⟨wm,wz,iw,-,-,-,-,-,-,-,oh⟩:=aF (cs:=gT.toArray) u0 u1 u2 u3 u4 u5 u6 (show Rd.rd (α:=aA n1) nS w gT.toArray.toList _ from aj);obtain rfl:=toL iw;obtain⟨p9,qo,rfl,-,-,-⟩:=oh.open;have ae:=q.o.keep (show w.cell? ⟨b,off+14,none⟩=some (.int .i64 u0) from by simpa[Rd.n] using T 0 _ rfl);have dG:=q.o.keep (show w.cell? ⟨b,off+14+1,none⟩=some (.int .i64 u1) from by simpa[Rd.n] using T 1 _ rfl);have dL:=q.o.keep (show w.cell? ⟨b,off+14+2,none⟩=some (.int .i64 u2) from by simpa[Rd.n] using T 2 _ rfl);have dU:=q.o.keep (show w.cell? ⟨b,off+14+3,none⟩=some (.int .i64 u3) from by simpa[Rd.n] using T 3 _ rfl);have dW:=q.o.keep (show w.cell? ⟨b,off+14+4,none⟩=some (.string u4) from by simpa[Rd.n] using T 4 _ rfl);have eH:=q.o.keep (show w.cell? ⟨b,off+14+5,none⟩=some (.string u5) from by simpa[Rd.n] using T 5 _ rfl);have fe:=q.o.keep (show w.cell? ⟨b,off+14+6,none⟩=some (.slice p9 u6.length qo) from by simpa[Rd.n] using T 6 _ rfl);have oo:=blk ae;clear iw T aj ik oh;obtain⟨E,ax⟩:=(VG.o).c2;have jN:=blk E;obtain⟨H,ay,aL,aN,aS,aV⟩:=(VR.o).c6;have jX:=blk H;obtain⟨I,aZ,bg,bq,bB,bD,bH⟩:=(VX.o).c7;have j4:=blk I;obtain⟨J,bK,bL,bN,bV,cK,cO⟩:=(ma.o).c7;have j5:=blk J;obtain⟨V1,ku⟩:=nm (dZ (U,X) (Y,Z,r2,r3,r4,r5) (n1+1) (p0,p1,p2,p3,p4,p5,p6));obtain⟨V2,ky⟩:=nm (dZ (U,X) (Y,Z,r2,r3,r4,r5) (n1+1) (s0,s1,s2,s3,s4,s5,s6));obtain⟨V3,kz⟩:=nm (dZ (U,X) (Y,Z,r2,r3,r4,r5) (n1+1) (u0,u1,u2,u3,u4,u5,u6));have H1:=Kz ku.symm;have H2:=Kz ky.symm;have H3:=Kz kz.symm
  have HF:=Kz (show l8=if V1=3∧V2=V3 then V2 else 0 by
   rw[fK.o,oH.o]
   show(if _∧_ then _ else _)=_
   rw[←oK.o,←oW.o,←pV.o,ku,ky,kz])
  clear ku ky kz
  by_cases h1:V1=3
  ·subst h1
   refine wg ?_
   iterate 14 (go_big_quiet_step ((go_at_call_of 232 p0;refine aG (vT HE.o (U,X) (Y,Z,r2,r3,r4,r5) (p0,p1,p2,p3,p4,p5,p6) _ (Rd.gr HG.o ?_) (Rd.gr HR.o ?_) (Rd.gr mh.o ?_) H1.o)<;>exact q.o.trans gd)))
   refine wq fun nx=>?_
   go_wp2_with fail;obtain⟨B2,kE⟩:=nm (B.ext nx);have s:Gr B B2:=by rw[kE];exact gd
   rw[←kE];clear kE;have kL:=Kz (q.o.trans s);replace dC:=s.keep dC;replace mH:=s.keep mH;replace mZ:=s.keep mZ;replace nz:=s.keep nz;replace nM:=s.keep nM;replace nO:=s.keep nO;replace nP:=s.keep nP;replace pR:=blk dC;replace ae:=s.keep ae;replace dG:=s.keep dG;replace dL:=s.keep dL;replace dU:=s.keep dU;replace dW:=s.keep dW;replace eH:=s.keep eH;replace fe:=s.keep fe;replace oo:=blk ae;replace E:=s.keep E;replace ax:=s.keep ax;replace jN:=blk E;replace H:=s.keep H;replace ay:=s.keep ay;replace aL:=s.keep aL;replace aN:=s.keep aN;replace aS:=s.keep aS;replace aV:=s.keep aV;replace jX:=blk H;replace I:=s.keep I;replace aZ:=s.keep aZ;replace bg:=s.keep bg;replace bq:=s.keep bq;replace bB:=s.keep bB;replace bD:=s.keep bD;replace bH:=s.keep bH;replace j4:=blk I;replace J:=s.keep J;replace bK:=s.keep bK;replace bL:=s.keep bL;replace bN:=s.keep bN;replace bV:=s.keep bV;replace cK:=s.keep cK;replace cO:=s.keep cO;replace j5:=blk J;refine wg ?_
   iterate 8 (go_big_quiet_step ((go_at_call_of 232 s0;refine aG (vT HE.o (U,X) (Y,Z,r2,r3,r4,r5) (s0,s1,s2,s3,s4,s5,s6) _ (Rd.gr HG.o ?_) (Rd.gr HR.o ?_) (Rd.gr o9.o ?_) H2.o)<;>exact kL.o.trans gd)))
   refine wq fun nx=>?_
   go_wp2_with fail;obtain⟨B3,kQ⟩:=nm (B2.ext nx);have D:Gr B2 B3:=by rw[kQ];exact gd
   rw[←kQ];clear kQ;have au:=Kz (kL.o.trans D);replace ae:=D.keep ae;replace dG:=D.keep dG;replace dL:=D.keep dL;replace dU:=D.keep dU;replace dW:=D.keep dW;replace eH:=D.keep eH;replace fe:=D.keep fe;replace oo:=blk ae;replace E:=D.keep E;replace ax:=D.keep ax;replace jN:=blk E;replace H:=D.keep H;replace ay:=D.keep ay;replace aL:=D.keep aL;replace aN:=D.keep aN;replace aS:=D.keep aS;replace aV:=D.keep aV;replace jX:=blk H;replace I:=D.keep I;replace aZ:=D.keep aZ;replace bg:=D.keep bg;replace bq:=D.keep bq;replace bB:=D.keep bB;replace bD:=D.keep bD;replace bH:=D.keep bH;replace j4:=blk I;replace J:=D.keep J;replace bK:=D.keep bK;replace bL:=D.keep bL;replace bN:=D.keep bN;replace bV:=D.keep bV;replace cK:=D.keep cK;replace cO:=D.keep cO;replace j5:=blk J
   by_cases h2:V2=V3
   ·subst h2
    refine wg ?_
    iterate 9 (go_big_quiet_step ((go_at_call_of 232 u0;refine aG (vT HE.o (U,X) (Y,Z,r2,r3,r4,r5) (u0,u1,u2,u3,u4,u5,u6) _ (Rd.gr HG.o ?_) (Rd.gr HR.o ?_) (Rd.gr nZ.o ?_) H3.o)<;>exact au.o.trans gd)))
    refine wq fun nx=>?_
    go_wp2_with fail;go_ret;exact⟨by rw[HF.o];simp,au.o.trans gd⟩
   ·have qD:(V2==V3)=false:=by simpa using h2
    have ow:(V2 !=V3)=true:=by simpa using h2
    refine wg ?_
    iterate 9 (go_big_quiet_step ((go_at_call_of 232 u0;refine aG (vT HE.o (U,X) (Y,Z,r2,r3,r4,r5) (u0,u1,u2,u3,u4,u5,u6) _ (Rd.gr HG.o ?_) (Rd.gr HR.o ?_) (Rd.gr nZ.o ?_) H3.o)<;>exact au.o.trans gd)))
    refine wq fun nx=>?_
    go_wp2_with fail;go_ret;exact⟨by rw[HF.o,if_neg (fun h=>h2 h.2)];rfl,au.o.trans gd⟩
  ·have qD:(V1==3)=false:=by simpa using h1
   have ow:(V1 !=3)=true:=by simpa using h1
   refine wg ?_
   iterate 14 (go_big_quiet_step ((go_at_call_of 232 p0;refine aG (vT HE.o (U,X) (Y,Z,r2,r3,r4,r5) (p0,p1,p2,p3,p4,p5,p6) _ (Rd.gr HG.o ?_) (Rd.gr HR.o ?_) (Rd.gr mh.o ?_) H1.o)<;>exact q.o.trans gd)))
   refine wq fun nx=>?_
   go_wp2_with fail;go_ret;exact⟨by rw[HF.o,if_neg (fun h=>h1 h.1)];rfl,q.o.trans gd⟩
 ·have dA:¬((q6.length:Int)=3):=by omega
  have sw:((q6.length:Int)==3)=false:=by simpa using dA
  have sG:((q6.length:Int)!=3)=true:=by simpa using dA
  have HF:=Kz (show l8=0 from by
   rw[fK.o];unfold KN
   split
   ·simp at hlen
   ·rfl)
  clear hlen;obtain⟨E,ax⟩:=(VG.o).c2;have jN:=blk E;obtain⟨H,ay,aL,aN,aS,aV⟩:=(VR.o).c6;have jX:=blk H;obtain⟨I,aZ,bg,bq,bB,bD,bH⟩:=(VX.o).c7;have j4:=blk I;obtain⟨J,bK,bL,bN,bV,cK,cO⟩:=(ma.o).c7;have j5:=blk J;refine wg ?_
  iterate 14 (go_big_quiet_step (fail))
  refine wq fun nx=>?_
  go_wp2_with fail;go_ret;exact⟨by rw[HF.o];rfl,q.o.trans gd⟩
end Go.Proofs.YtdhighcpmcdmmaaGreat
