/- Contracts and laws towards ReadsOf, part 41 of 54. No condition. -/
import Derived.Test.YtdhighcpmcdmmaaGreatFx35
set_option maxHeartbeats 32000000
set_option maxRecDepth 10000
set_option linter.unusedVariables false
set_option linter.unusedSimpArgs false
namespace Go.Proofs.YtdhighcpmcdmmaaGreat
open Go.RowKit
open _root_.List (getElem_mem take_length)
variable{d:Nat}
variable{n:Nat}
theorem uo{q0 q1 q2 q3:Int}{q4 q5:ByteArray}{q6:List (GE n)}{z:GE n}(h:z∈q6){M:Nat}(hc:cZ (n+1) ((q0,q1,q2,q3,q4,q5,q6):aA n)≤M):cZ n z≤M:=by
 have e:cZ (n+1) ((q0,q1,q2,q3,q4,q5,q6):aA n)=1+(q6.map (cZ n)).sum:=rfl;obtain⟨j,q,rfl⟩:=List.mem_iff_getElem.1 h;have s:=eZ (cZ n) q6 j q;have B:=gJ (cZ n) q6 (j+1);omega
def OH(F:Nat)(d:Nat):Prop:=∀(fp fl:List Nat) (cs:Array Value) (u:Value) (x:GE d) (L:List ag) (w:World) (h:Rd.rd fp w cs.toList x) (q:SlR fl w u L) (hc:cZ d x≤1048576),Calls Tryz.prog F #[.agg cs,u] w fun e w'=>e=.returned (.bool (pB (UsP L d x)))∧Gr w w'
def OB(F:Nat)(d:Nat):Prop:=∀(fp fl:List Nat) (cs:Array Value) (u:Value) (x:GE d) (L:List ag) (w:World) (h:Rd.rd fp w cs.toList x) (q:SlR fl w u L) (hc:cZ d x≤1048576),Calls Tryz.prog F #[.agg cs,u] w fun e w'=>e=.returned (.bool (pB (gX L d x)))∧Gr w w'
theorem ME(hE:OH 185 d)(fp fl:List Nat)(cs:Array Value)(u:Value)(x:aA d)(L:List ag)(w:World)(hx:Rd.rd fp w cs.toList x)(hL:SlR fl w u L)(hc:cZ (d+1) x≤1048576):
  Qz 185 #[.agg cs,u] w (.bool (pB (UsP L (d+1) x))):=by
 obtain⟨q0,q1,q2,q3,q4,q5,q6,ae,ah,dA,rfl,rfl,-,dC,dG,bD,dL,dU,bH,bq,cO,dz⟩:=KU hx;have O:=bq.op3;have bB:=Kz bq;clear hx;have ai:=Kz hL;obtain⟨al,kl,rfl,-,-,-⟩:=hL.open;have HC:=Kz hc;have HQ:=Kz (And.intro bD bH);obtain⟨R,hR⟩:=nm (pB (UsP L (d+1) ((q0,q1,q2,q3,q4,q5,q6):aA d)));rw[←hR];have HR:=Kz hR;clear hL hc hR
 by_cases h3:q0=3
 ·have bK:(q0==3)=true:=by simp[h3]
  have H3:=Kz h3;clear h3
  by_cases hm:(q2,q5)∈L
  ·have HM:=Kz hm
   clear hm;delta Qz;go_in
   go_wp2_with (first|(go_at_call 122;refine(qc L (q2,q5) _ (ai.o.gr gd) (bO q2 q5 HQ.o.1 HQ.o.2)).mono ?_;rintro e w' ⟨rfl,x1,rfl⟩;rw[bQ HM.o]))
   go_ret;exact⟨aa (HR.o.trans (bQ (L9.2 (.inl ⟨H3.o,HM.o⟩)))).symm,gd⟩
  ·have HN:=Kz (show¬(q0=3∧(q2,q5)∈L) from fun h=>hm h.2)
   have HM:=Kz hm;clear hm;delta Qz;go_in;go_wp2_with fail;generalize H:w.alloc (.cells #[.int .i64 q0,.int .i64 q1,.int .i64 q2,.int .i64 q3,.string q4,.string q5,.slice ae q6.length ah] 115)=B;have gB:Gr w B:=gb H;have b0:B.cell? ⟨w.heap.size,0,none⟩=some (.int .i64 q0):=by rw[←H];exact aJ rfl rfl
   have b1:B.cell? ⟨w.heap.size,1,none⟩=some (.int .i64 q1):=by rw[←H];exact aJ rfl rfl
   have b2:B.cell? ⟨w.heap.size,2,none⟩=some (.int .i64 q2):=by rw[←H];exact aJ rfl rfl
   have b3:B.cell? ⟨w.heap.size,3,none⟩=some (.int .i64 q3):=by rw[←H];exact aJ rfl rfl
   have b4:B.cell? ⟨w.heap.size,4,none⟩=some (.string q4):=by rw[←H];exact aJ rfl rfl
   have b5:B.cell? ⟨w.heap.size,5,none⟩=some (.string q5):=by rw[←H];exact aJ rfl rfl
   have b6:B.cell? ⟨w.heap.size,6,none⟩=some (.slice ae q6.length ah):=by rw[←H];exact aJ rfl rfl
   have T:=Kz gB;have D:=Kz (And.intro b0 (And.intro b1 (And.intro b2 (And.intro b3 (And.intro b4 (And.intro b5 b6))))));clear H gB b0 b1 b2 b3 b4 b5 b6;have q:=Kz (Gr.refl B);have y0:=q.o.keep D.o.1;have y1:=q.o.keep D.o.2.1;have y2:=q.o.keep D.o.2.2.1;have y3:=q.o.keep D.o.2.2.2.1;have y4:=q.o.keep D.o.2.2.2.2.1;have y5:=q.o.keep D.o.2.2.2.2.2.1;have y6:=q.o.keep D.o.2.2.2.2.2.2;have zy:=blk y0;have E:=Kz (T.o.trans q.o)
   go_wp2_with (first|(go_at_call 122;refine(qc L (q2,q5) _ (ai.o.gr (tg T)) (bO q2 q5 HQ.o.1 HQ.o.2)).mono ?_;rintro e w' ⟨rfl,x1,rfl⟩;rw[bz HM.o]))
   clear q E
   go_loopw [5] (fun X wr=>∃(k:Nat),k≤q6.length∧Ky (∀z∈q6.take k,¬UsP L d z)∧Ky (Gr B wr)∧X=.int .i64 k) (fun X _=>q6.length - (intOf X).toNat)
   case atStart=>exact⟨0,by omega,Kz (fun z Y=>by simp at Y),Kz gd,rfl⟩
   case round=>
    obtain⟨k,hk,Z,q,rfl⟩:=hrel
    rename World=>W1
    have y0:=q.o.keep D.o.1;have y1:=q.o.keep D.o.2.1;have y2:=q.o.keep D.o.2.2.1;have y3:=q.o.keep D.o.2.2.2.1;have y4:=q.o.keep D.o.2.2.2.2.1;have y5:=q.o.keep D.o.2.2.2.2.2.1;have y6:=q.o.keep D.o.2.2.2.2.2.2;have zy:=blk y0;have E:=Kz (T.o.trans q.o)
    by_cases J:k<q6.length
    ·have aj:=Kz (fun h=>dD J Z.o h)
     have K:=Kz (getElem_mem J)
     obtain⟨d1,rfl⟩:∃e,d=e+1:=by
      cases d with
      |zero=>exact PEmpty.elim (q6[k])
      |succ e=>exact⟨e,rfl⟩
     obtain⟨b,off,rfl,hb⟩:=O k J;obtain⟨p0,p1,p2,p3,p4,p5,p6,bL,bN,bV,cK,au,ax,ay,aL,aN,aS,aV,aZ,bg,-,-,z0,z1,z2,z3,z4,z5,z6,zb⟩:=Lc bB.o J E.o;have k0:(0:Int)≤(k:Int):=by omega
     have k1:(k:Int)<(q6.length:Int):=by omega
     have iw:=zI1 k (by omega);clear O ay aL aN aS aV aZ bg;go_wp2_with fail;refine(hE _ _ _ _ q6[k] L _ (Rd.gr (by rw[←au.o];exact ax.o) E.o) (ai.o.gr E.o) (uo K.o HC.o)).mono ?_;rintro e w' ⟨rfl,g2⟩;have U:=Kz g2;clear g2
     by_cases s:UsP L (d1+1) q6[k]
     ·rw[bQ s]
      have I:=Kz s;clear s;go_wp2_with fail;go_ret;exact⟨aa (HR.o.trans (bQ (L9.2 (.inr ⟨_,K.o,I.o⟩)))).symm,E.o.trans U.o⟩
     ·rw[bz s]
      have I:=Kz s;clear s;go_wp2_with fail;exact⟨⟨k+1,by omega,Kz (aj.o I.o),Kz (q.o.trans U.o),by go_num⟩,by simp[intOf];omega⟩
    ·obtain rfl:k=q6.length:=by omega
     rw[take_length] at Z;go_wp2_with fail;go_ret;exact⟨aa (HR.o.trans (bz fun h=>(L9.1 h).elim HN.o (fun hh=>by obtain⟨z,Y,hu⟩:=hh;exact Z.o z Y hu))).symm,E.o⟩
 ·have bK:(q0==3)=false:=by simpa using h3
  have HN:=Kz (show¬(q0=3∧(q2,q5)∈L) from fun h=>h3 h.1);clear h3;delta Qz;go_in;go_wp2_with fail;generalize H:w.alloc (.cells #[.int .i64 q0,.int .i64 q1,.int .i64 q2,.int .i64 q3,.string q4,.string q5,.slice ae q6.length ah] 115)=B;have gB:Gr w B:=gb H;have b0:B.cell? ⟨w.heap.size,0,none⟩=some (.int .i64 q0):=by rw[←H];exact aJ rfl rfl
  have b1:B.cell? ⟨w.heap.size,1,none⟩=some (.int .i64 q1):=by rw[←H];exact aJ rfl rfl
  have b2:B.cell? ⟨w.heap.size,2,none⟩=some (.int .i64 q2):=by rw[←H];exact aJ rfl rfl
  have b3:B.cell? ⟨w.heap.size,3,none⟩=some (.int .i64 q3):=by rw[←H];exact aJ rfl rfl
  have b4:B.cell? ⟨w.heap.size,4,none⟩=some (.string q4):=by rw[←H];exact aJ rfl rfl
  have b5:B.cell? ⟨w.heap.size,5,none⟩=some (.string q5):=by rw[←H];exact aJ rfl rfl
  have b6:B.cell? ⟨w.heap.size,6,none⟩=some (.slice ae q6.length ah):=by rw[←H];exact aJ rfl rfl
  have T:=Kz gB;have D:=Kz (And.intro b0 (And.intro b1 (And.intro b2 (And.intro b3 (And.intro b4 (And.intro b5 b6))))));clear H gB b0 b1 b2 b3 b4 b5 b6
  go_loopw [5] (fun X wr=>∃(k:Nat),k≤q6.length∧Ky (∀z∈q6.take k,¬UsP L d z)∧Ky (Gr B wr)∧X=.int .i64 k) (fun X _=>q6.length - (intOf X).toNat)
  case atStart=>exact⟨0,by omega,Kz (fun z Y=>by simp at Y),Kz gd,rfl⟩
  case round=>
   obtain⟨k,hk,Z,q,rfl⟩:=hrel
   rename World=>W1
   have y0:=q.o.keep D.o.1;have y1:=q.o.keep D.o.2.1;have y2:=q.o.keep D.o.2.2.1;have y3:=q.o.keep D.o.2.2.2.1;have y4:=q.o.keep D.o.2.2.2.2.1;have y5:=q.o.keep D.o.2.2.2.2.2.1;have y6:=q.o.keep D.o.2.2.2.2.2.2;have zy:=blk y0;have E:=Kz (T.o.trans q.o)
   by_cases J:k<q6.length
   ·have aj:=Kz (fun h=>dD J Z.o h)
    have K:=Kz (getElem_mem J)
    obtain⟨d1,rfl⟩:∃e,d=e+1:=by
     cases d with
     |zero=>exact PEmpty.elim (q6[k])
     |succ e=>exact⟨e,rfl⟩
    obtain⟨b,off,rfl,hb⟩:=O k J;obtain⟨p0,p1,p2,p3,p4,p5,p6,bL,bN,bV,cK,au,ax,ay,aL,aN,aS,aV,aZ,bg,-,-,z0,z1,z2,z3,z4,z5,z6,zb⟩:=Lc bB.o J E.o;have k0:(0:Int)≤(k:Int):=by omega
    have k1:(k:Int)<(q6.length:Int):=by omega
    have iw:=zI1 k (by omega);clear O ay aL aN aS aV aZ bg;go_wp2_with fail;refine(hE _ _ _ _ q6[k] L _ (Rd.gr (by rw[←au.o];exact ax.o) E.o) (ai.o.gr E.o) (uo K.o HC.o)).mono ?_;rintro e w' ⟨rfl,g2⟩;have U:=Kz g2;clear g2
    by_cases s:UsP L (d1+1) q6[k]
    ·rw[bQ s]
     have I:=Kz s;clear s;go_wp2_with fail;go_ret;exact⟨aa (HR.o.trans (bQ (L9.2 (.inr ⟨_,K.o,I.o⟩)))).symm,E.o.trans U.o⟩
    ·rw[bz s]
     have I:=Kz s;clear s;go_wp2_with fail;exact⟨⟨k+1,by omega,Kz (aj.o I.o),Kz (q.o.trans U.o),by go_num⟩,by simp[intOf];omega⟩
   ·obtain rfl:k=q6.length:=by omega
    rw[take_length] at Z;go_wp2_with fail;go_ret;exact⟨aa (HR.o.trans (bz fun h=>(L9.1 h).elim HN.o (fun hh=>by obtain⟨z,Y,hu⟩:=hh;exact Z.o z Y hu))).symm,E.o⟩
theorem o5:(d:Nat)→OH 185 d
 |0=>by intro fp fl cs u x;exact PEmpty.elim x
 |d+1=>fun fp fl cs u x L w h q hc=>ME (o5 d) fp fl cs u x L w h q hc
theorem Mh(hE:∀(fp:List Nat) (cs:Array Value) (x:GE d) (w:World) (Z:Rd.rd fp w cs.toList x),Qz 186 #[.agg cs] w (.bool (!pB (bX d x))))
  (fp:List Nat) (cs:Array Value) (x:aA d) (w:World) (Z:Rd.rd fp w cs.toList x):Qz 186 #[.agg cs] w (.bool (!pB (bX (d+1) x))):=by
 obtain⟨q0,q1,q2,q3,q4,q5,q6,T,U,bH,rfl,rfl,-,bK,bL,bN,bV,cK,cO,X,bB,bD⟩:=KU Z;have O:=X.op3;have ah:=Kz X;clear Z;obtain⟨R,hR⟩:=nm (pB (bX (d+1) ((q0,q1,q2,q3,q4,q5,q6):aA d)));rw[←hR];have HR:=Kz (hR.trans (iO (AL (p:=fun{d} (y:aA d)=>y.1≠8))));clear hR;delta Qz;go_in;go_wp2_with fail;generalize s:w.alloc (.cells #[.int .i64 q0,.int .i64 q1,.int .i64 q2,.int .i64 q3,.string q4,.string q5,.slice T q6.length U] 115)=B;have gB:Gr w B:=gb s;have b0:B.cell? ⟨w.heap.size,0,none⟩=some (.int .i64 q0):=by rw[←s];exact aJ rfl rfl
 have b1:B.cell? ⟨w.heap.size,1,none⟩=some (.int .i64 q1):=by rw[←s];exact aJ rfl rfl
 have b2:B.cell? ⟨w.heap.size,2,none⟩=some (.int .i64 q2):=by rw[←s];exact aJ rfl rfl
 have b3:B.cell? ⟨w.heap.size,3,none⟩=some (.int .i64 q3):=by rw[←s];exact aJ rfl rfl
 have b4:B.cell? ⟨w.heap.size,4,none⟩=some (.string q4):=by rw[←s];exact aJ rfl rfl
 have b5:B.cell? ⟨w.heap.size,5,none⟩=some (.string q5):=by rw[←s];exact aJ rfl rfl
 have b6:B.cell? ⟨w.heap.size,6,none⟩=some (.slice T q6.length U):=by rw[←s];exact aJ rfl rfl
 have ai:=Kz gB;have H:=Kz (And.intro b0 (And.intro b1 (And.intro b2 (And.intro b3 (And.intro b4 (And.intro b5 b6))))));clear s gB b0 b1 b2 b3 b4 b5 b6
 go_loopw [3] (fun s3 wr=>∃(k:Nat),k≤q6.length∧Ky (∀z∈q6.take k,bX d z)∧Ky (Gr B wr)∧s3=.int .i64 k) (fun s3 _=>q6.length - (intOf s3).toNat)
 case atStart=>exact⟨0,by omega,Kz (fun z hz=>by simp at hz),Kz (Gr.refl _),rfl⟩
 case round=>
  obtain⟨k,hk,HA,D,rfl⟩:=hrel
  rename World=>W1
  have y0:=D.o.keep H.o.1;have y1:=D.o.keep H.o.2.1;have y2:=D.o.keep H.o.2.2.1;have y3:=D.o.keep H.o.2.2.2.1;have y4:=D.o.keep H.o.2.2.2.2.1;have y5:=D.o.keep H.o.2.2.2.2.2.1;have y6:=D.o.keep H.o.2.2.2.2.2.2;have zy:=blk y0;have E:=Kz (ai.o.trans D.o)
  by_cases J:k<q6.length
  ·have aj:=Kz (fun h=>dD J HA.o h)
   have ae:=Kz (getElem_mem J)
   obtain⟨d1,rfl⟩:∃e,d=e+1:=by
    cases d with
    |zero=>exact PEmpty.elim (q6[k])
    |succ e=>exact⟨e,rfl⟩
   obtain⟨b,off,rfl,hb⟩:=O k J;obtain⟨p0,p1,p2,p3,p4,p5,p6,dz,dA,dC,dG,au,ax,ay,aL,aN,aS,aV,aZ,bg,-,-,z0,z1,z2,z3,z4,z5,z6,zb⟩:=Lc ah.o J E.o;have k0:(0:Int)≤(k:Int):=by omega
   have k1:(k:Int)<(q6.length:Int):=by omega
   have iw:=zI1 k (by omega);clear O ay aL aN aS aV aZ bg;go_wp2_with fail;refine(hE _ _ q6[k] _ (Rd.gr (by rw[←au.o];exact ax.o) E.o)).mono ?_;rintro e w' ⟨rfl,g2⟩;have Y:=Kz g2;clear g2
   by_cases q:bX (d1+1) q6[k]
   ·rw[bQ q]
    have I:=Kz q;clear q;go_wp2_with fail;exact⟨⟨k+1,by omega,Kz (aj.o I.o),Kz (D.o.trans Y.o),by go_num⟩,by simp[intOf];omega⟩
   ·rw[bz q]
    have I:=Kz q;clear q;go_wp2_with fail;go_ret;exact⟨aa (by rw[HR.o,bz fun h=>I.o (h.2 _ ae.o)];rfl),E.o.trans Y.o⟩
  ·obtain rfl:k=q6.length:=by omega
   rw[take_length] at HA
   by_cases K:q0=8
   ·have bq:(q0==8)=true:=by simp[K]
    have HT:=Kz (HR.o.trans (bz fun h=>h.1 K));clear K;go_wp2_with fail;go_ret;exact⟨aa (by rw[HT.o];rfl),E.o⟩
   ·have bq:(q0==8)=false:=by simpa using K
    have HT:=Kz (HR.o.trans (bQ ⟨K,HA.o⟩));clear K;go_wp2_with fail;go_ret;exact⟨aa (by rw[HT.o];rfl),E.o⟩
theorem vG:(d:Nat)→∀(fp:List Nat) (cs:Array Value) (x:GE d) (w:World) (h:Rd.rd fp w cs.toList x),Qz 186 #[.agg cs] w (.bool (!pB (bX d x)))
 |0=>by intro fp cs x;exact PEmpty.elim x
 |d+1=>Mh (vG d)
theorem Tryz.Gj:(Tryz.prog.info? 3).map (fun i=>(i.zero,i.size,i.bytes))=some (some (.int .i64 0),1,8):=by kernel_rfl
def tyL(g:af d)(r:aW d)(q0 q1 q2 q3:Int)(q4 q5:ByteArray)(L:List Int):Int:=
 if q0=1 then q3 else if q0=2 then(if r.2.2.2.1 then 1 else 0) else if q0=3 then pO (jf g r (q2,q5))
 else if q0=4 then(match L with|[a,b]=>if a=(opT q1).1∧b=(opT q1).2.1 then(opT q1).2.2 else 0|_=>0)
 else if q0=5 then(match L with|[a,b,c]=>if a=3∧b=c then b else 0|_=>0)
 else if q0=6 then(if 0≤q2∧q2≤r.2.2.1.length then 4 else 0)
 else if q0=7 then 4
 else if q0=8 then(match L with|[a]=>if a=4 then xD g q4 q5 else 0|_=>0)
 else 0
theorem JU(g:af d)(r:aW d)(q0 q1 q2 q3:Int)(q4 q5:ByteArray)(q6:List (GE n)):dZ g r (n+1) ((q0,q1,q2,q3,q4,q5,q6):aA n)=tyL g r q0 q1 q2 q3 q4 q5 (q6.map (dZ g r n)):=by
 match q6 with
 |[]=>rfl
 |[a]=>rfl
 |[a,b]=>rfl
 |[a,b,c]=>rfl
 |a::b::c::e::l=>rfl
def JC(g:af d)(r:aW d)(n:Nat):Prop:=∀(fg fr fx:List Nat) (cg cr cx:Array Value) (x:GE n) (w:World) (h:Rd.rd fg w cg.toList g) (q:Rd.rd fr w cr.toList r) (s:Rd.rd fx w cx.toList x) (B:wtE n x≤1048576),
 Calls Tryz.prog 249 #[.agg cg,.agg cr,.agg cx] w fun e w'=>e=.returned (.int .i64 (dZ g r n x))∧(Lit.int .i64 (dZ g r n x)).wf=true∧Gr w w'
theorem FD{g:af d}{r:aW d}(jN:aP g≤1048576)(hE:JC g r n):JC g r (n+1):=by
 obtain⟨i0,hi⟩:=info_parts Tryz.Gj;have HZ:=Kz hi;clear hi;intro fg fr fx cg cr cx x w hg I hx hl
 have HE:=Kz hE;clear hE jN;have HG:=Kz hg;obtain⟨J,O,cO,dz,oN,dA,dC,oV,rfl,rfl,-,oW,nP,nS,o9,nZ,oh⟩:=yt hg;clear hg;have HR:=Kz I;obtain⟨Y,Z,U,X,r4,r5,dG,dL,pG,dU,dW,pM,eH,fe,pR,rfl,rfl,-,pV,p9,qo,oo,oq,qD,ow,oz,qE,oG,oH⟩:=KV I;clear I;have HL:=Kz hl;clear hl;obtain⟨q0,q1,q2,q3,q4,q5,q6⟩:=(x:aA n);have hx:Rd.rd (α:=aA n) fx w cx.toList (q0,q1,q2,q3,q4,q5,q6):=hx;obtain⟨qG,qN,rfl,-,qR,qV,jX,j4,qX,j5,fu⟩:=aF q0 q1 q2 q3 q4 q5 q6 hx;obtain⟨bg,bq,rfl,oK,oL,ik⟩:=fu.open;have ku:=Kz fu;clear hx
 have rf:q6.length≤1048576:=by
  have h1:q4.size+q5.size+wtL (wtE n) q6≤1048576:=HL.o;have h2:=bT (wtE n) q6;omega
 obtain⟨H,aL⟩:=nm (dZ (J,O) (Y,Z,U,X,r4,r5) (n+1) ((q0,q1,q2,q3,q4,q5,q6):aA n))
 show Calls _ _ _ _ fun e w'=>e=.returned (.int .i64 (dZ (J,O) (Y,Z,U,X,r4,r5) (n+1) ((q0,q1,q2,q3,q4,q5,q6):aA n)))∧(Lit.int .i64 (dZ (J,O) (Y,Z,U,X,r4,r5) (n+1) ((q0,q1,q2,q3,q4,q5,q6):aA n))).wf=true∧Gr w w'
 rw[←aL];have bB:=Kz (aL.trans (JU (J,O) (Y,Z,U,X,r4,r5) q0 q1 q2 q3 q4 q5 q6));clear aL;go_in
 go_upto_region 3 with fail
 obtain⟨B0,ah⟩:=nm ((((w.alloc (.cells #[.slice cO J.length dz,.slice dA O.length dC] 36)).alloc (.cells #[.string Y,.string Z,.slice dG U.length dL,.bool X,.slice dU r4.length dW,.slice eH r5.length fe] 112)).alloc (.cells #[.int .i64 q0,.int .i64 q1,.int .i64 q2,.int .i64 q3,.string q4,.string q5,.slice bg q6.length bq] 115)));rw[←ah];have gB:Gr w B0:=by rw[ah];exact gd
 have VG:=Kz (show az B0 w.heap.size 36 [.slice cO J.length dz,.slice dA O.length dC] from by rw[ah];exact kv);have VR:=Kz (show az B0 (w.heap.size+1) 112 [.string Y,.string Z,.slice dG U.length dL,.bool X,.slice dU r4.length dW,.slice eH r5.length fe] from by rw[ah];exact kv);have VX:=Kz (show az B0 (w.heap.size+1+1) 115 [.int .i64 q0,.int .i64 q1,.int .i64 q2,.int .i64 q3,.string q4,.string q5,.slice bg q6.length bq] from by rw[ah];exact kv);have ai:=Kz (show az B0 (w.heap.size+2) 115 [.int .i64 q0,.int .i64 q1,.int .i64 q2,.int .i64 q3,.string q4,.string q5,.slice bg q6.length bq] from VX.o);have ky:=Kz gB;have bD:B0.heap.size=w.heap.size+3:=by rw[ah];simp
 have kz:=Kz bD;clear ah gB bD
 go_loopw [23,7] (fun bH s7 wr=>∃(k:Nat) (fps:List (List Nat)),k≤q6.length∧Ky (fps.flatten=[])∧Gr B0 wr∧bE (α:=Int) B0 3 wr s7 fps ((q6.take k).map (dZ (J,O) (Y,Z,U,X,r4,r5) n))∧bH=.int .i64 k) (fun bH _ _=>q6.length - (intOf bH).toNat)
 case atStart=>exact⟨0,[],by omega,Kz rfl,gd,bE.kF (α:=Int) (w0:=B0) (w:=B0) 3 (Nat.le_refl _) (by first|rfl|(have:=kz.o;omega)),rfl⟩
 case round=>
  obtain⟨k,fps,hk,q,aN,hown,rfl⟩:=hrel
  rename World=>W1
  have s:=Kz aN;have HO:=Kz hown;obtain⟨L,hL⟩:=nm ((q6.take k).map (dZ (J,O) (Y,Z,U,X,r4,r5) n));have kE:L.length=k:=by rw[hL];simp;omega
  have rq:L.length≤1048576:=by omega
  clear kE;obtain⟨ra,rc,aS⟩:=hown.form;rw[←hL] at aS;subst aS;have ae:=Kz hL;have B:=Kz (ky.o.trans aN);clear hown hL;have kL:=(VG.o.gr s.o).c 0;have rD:=(VG.o.gr s.o).c 1;have rE:=blk kL;have kQ:=(VR.o.gr s.o).c 0;have rR:=(VR.o.gr s.o).c 1;have rT:=(VR.o.gr s.o).c 2;have sw:=(VR.o.gr s.o).c 3;have sG:=(VR.o.gr s.o).c 4;have sH:=(VR.o.gr s.o).c 5;have sN:=blk kQ;have kS:=(VX.o.gr s.o).c 0;have sO:=(VX.o.gr s.o).c 1;have sW:=(VX.o.gr s.o).c 2;have tJ:=(VX.o.gr s.o).c 3;have uh:=(VX.o.gr s.o).c 4;have bK:=(VX.o.gr s.o).c 5;have ui:=(VX.o.gr s.o).c 6;have kT:=blk kS;have um:=(ai.o.gr s.o).c 0;have uq:=(ai.o.gr s.o).c 1;have uw:=(ai.o.gr s.o).c 2;have uL:=(ai.o.gr s.o).c 3;have uR:=(ai.o.gr s.o).c 4;have fw:=(ai.o.gr s.o).c 5;have uW:=(ai.o.gr s.o).c 6;clear aN
  by_cases aV:k<q6.length
  ·have fA:wtE n q6[k]≤1048576:=by
    have h1:q4.size+q5.size+wtL (wtE n) q6≤1048576:=HL.o;have h2:=dI (wtE n) q6 aV;omega
   have kV:=Kz fA;obtain⟨T,hT⟩:=nm (dZ (J,O) (Y,Z,U,X,r4,r5) n q6[k]);have kX:=Kz (show(q6.take (k+1)).map (dZ (J,O) (Y,Z,U,X,r4,r5) n)=L++[T] by rw[List.take_succ_eq_append_getElem aV,List.map_append,ae.o,hT];rfl);have HT:=Kz hT;clear fA hT
   obtain⟨d1,rfl⟩:∃e,n=e+1:=by
    cases n with
    |zero=>exact PEmpty.elim (q6[k])
    |succ e=>exact⟨e,rfl⟩
   obtain⟨b,off,rfl,hb⟩:=ik k aV;obtain⟨p0,p1,p2,p3,p4,p5,p6,uZ,ve,vo,vv,kZ,lq,lG,lV,l5,l6,l7,l8,ma,-,-,z0,z1,z2,z3,z4,z5,z6,zb⟩:=Lc ku.o aV B.o;have k0:(0:Int)≤(k:Int):=by omega
   have k1:(k:Int)<(q6.length:Int):=by omega
   have iw:=zI1 k (by omega);clear lG lV l5 l6 l7 l8 ma;go_wp2_with fail;refine(HE.o _ _ _ _ _ _ q6[k] _ (Rd.gr HG.o (tg B)) (Rd.gr HR.o (tg B)) (Rd.gr (by rw[←kZ.o];exact lq.o) (tg B)) kV.o).mono ?_;rintro e w' ⟨rfl,aj,x2,rfl⟩;rw[←HT.o] at aj ⊢;have mf:=Kz aj;clear aj
   go_wp2_with (first|(at_builtin;refine bP (α:=Int) (w0:=B0) (tg s) rfl _ _ 29 rfl 3 i0 (.int .i64 0) 8 Tryz.underlying29 HZ.o.1 HZ.o.2.1 HZ.o.2.2.1 HZ.o.2.2.2 rfl _ fps _ (by rfl) (HO.o.gr gd) _ [[]] [T] (by rfl) (eT.one (by simp) ⟨rfl,rfl,mf.o⟩) (fun b _=>by simp) (by rw[←ae.o];unfold maxLen;simp;omega) (by rw[←ae.o];simp;omega) ?_;intro v3 w3 h1 h2 h3 h4;replace h1:=Kz h1;replace h4:=Kz h4;clear h2 h3))
   refine⟨⟨k+1,fps++[[]],by omega,Kz (by rw[List.flatten_append,q.o];rfl),h4.o,?_,by go_num⟩,by simp[intOf];omega⟩;rw[kX.o,ae.o];exact h1.o
  ·obtain rfl:k=q6.length:=by omega
   obtain⟨fq,h1,h2⟩:=HO.o.fresh (by rw[←ae.o];unfold bn;omega) (by rw[q.o];exact aY.nil _);rw[←ae.o] at h1;have H1:=Kz h1;have K:=Kz (show H=tyL (J,O) (Y,Z,U,X,r4,r5) q0 q1 q2 q3 q4 q5 L by rw[bB.o,ae.o,take_length]);clear h1 h2 bB ae
   by_cases e1:q0=1
   ·subst e1
    have q:=Kz (show H=q3 from K.o);go_wp2_with fail;go_ret;exact⟨by rw[q.o];rfl,by rw[q.o];exact j4,B.o.trans gd⟩
   ·have n1:(q0==1)=false:=by simpa using e1
    have E1:=Kz e1;clear e1
    by_cases e2:q0=2
    ·subst e2
     cases X with
     |true=>
      have q:=Kz (show H=1 from K.o);go_wp2_with fail;go_ret;exact⟨by rw[q.o];rfl,by rw[q.o];decide,B.o.trans gd⟩
     |false=>
      have q:=Kz (show H=0 from K.o);go_wp2_with fail;go_ret;exact⟨by rw[q.o];rfl,by rw[q.o];decide,B.o.trans gd⟩
    ·have n2:(q0==2)=false:=by simpa using e2
     have E2:=Kz e2;clear e2
     by_cases e3:q0=3
     ·subst e3
      have q:=Kz (show H=pO (jf (J,O) (Y,Z,U,X,r4,r5) (q2,q5)) from K.o);go_wp2_with fail;refine(mM (J,O) (Y,Z,U,X,r4,r5) (q2,q5) _ (Rd.gr HG.o (tg B)) (Rd.gr HR.o (tg B)) (bO q2 q5 jX j5)).mono ?_;rintro e w' ⟨es,bL,rfl,I,-,x3,rfl⟩;have I:Rd.rd bL (W1.ext x3) es.toList ((jf (J,O) (Y,Z,U,X,r4,r5) (q2,q5)).getD dR):=I;obtain⟨A,hA⟩:=nm ((jf (J,O) (Y,Z,U,X,r4,r5) (q2,q5)).getD dR);rw[←hA] at I;have HA:=Kz hA;obtain⟨t0,t1,t2,t3,rfl,rfl,-,mh,bN,mo⟩:=Ld I;have au:=Kz (show H=t1 by rw[q.o];unfold pO;rw[←HA.o]);clear hA I;go_wp2_with fail;go_ret;exact⟨by rw[au.o];rfl,by rw[au.o];exact bN,B.o.trans gd⟩
     ·have n3:(q0==3)=false:=by simpa using e3
      have E3:=Kz e3;clear e3
      by_cases e4:q0=4
      ·subst e4
       by_cases hlen:L.length=2
       ·obtain⟨a,c,rfl⟩:∃a c,L=[a,c]:=by
         match L,hlen with
         |[a,c],_=>exact⟨a,c,rfl⟩
        clear hlen;obtain⟨fK,gm,he,-,-,o3⟩:=H1.o.open;injection he with ax gF ay;subst ax ay;obtain⟨b,off,rfl,hb⟩:=o3 0 (by simp);have c0:W1.cell? ⟨b,off,none⟩=some (.int .i64 a):=by simpa using(H1.o.fQ (i:=0) (by simp)).1
        have c1:W1.cell? ⟨b,off+1,none⟩=some (.int .i64 c):=by simpa using(H1.o.fQ (i:=1) (by simp)).1
        obtain⟨T,hT⟩:=nm (opT q1);have q:=Kz (show H=if a=T.1∧c=T.2.1 then T.2.2 else 0 by rw[hT];exact K.o)
        have aj:(Lit.int .i64 T.2.2).wf=true:=by
         rw[hT];unfold opT;repeat(first|decide|split)
        have HT:=Kz hT;obtain⟨T0,T1,T2⟩:=T;simp only at q aj;clear hT
        go_wp2_with (first|(go_at_call 263;refine(uO q1 _).mono ?_;rintro e w' ⟨rfl,x3,rfl⟩;rw[←HT.o]))
        go_ways
        all_goals
         go_ret;have HW:=Kz aj;refine⟨?_,?_,B.o.trans gd⟩
         ·rw[q.o];first|(simp_all;done)
         ·rw[q.o];split
          ·exact HW.o
          ·decide
       ·have gH:¬((L.length:Int)=2):=by omega
        have q:=Kz (show H=0 by
         rw[K.o]
         show(match L with|[a,b]=>_|_=>_)=_
         split
         ·simp at hlen
         ·rfl)
        clear hlen;go_wp2_with fail;go_ret;exact⟨by rw[q.o];rfl,by rw[q.o];decide,B.o.trans gd⟩
      ·have n4:(q0==4)=false:=by simpa using e4
       have E4:=Kz e4;clear e4
       by_cases e5:q0=5
       ·subst e5
        by_cases hlen:L.length=3
        ·obtain⟨a,c,f,rfl⟩:∃a c f,L=[a,c,f]:=by
          match L,hlen with
          |[a,c,f],_=>exact⟨a,c,f,rfl⟩
         clear hlen;obtain⟨fK,gm,he,-,-,o3⟩:=H1.o.open;injection he with ax gF ay;subst ax ay;obtain⟨b,off,rfl,hb⟩:=o3 0 (by simp);have c0:W1.cell? ⟨b,off,none⟩=some (.int .i64 a):=by simpa using(H1.o.fQ (i:=0) (by simp)).1
         have c1:W1.cell? ⟨b,off+1,none⟩=some (.int .i64 c):=by simpa using(H1.o.fQ (i:=1) (by simp)).1
         have c2:W1.cell? ⟨b,off+2,none⟩=some (.int .i64 f):=by simpa using(H1.o.fQ (i:=2) (by simp)).1
         have mq:(Lit.int .i64 c).wf=true:=by simpa using(H1.o.fQ (i:=1) (by simp)).2
         have q:=Kz (show H=if a=3∧c=f then c else 0 from K.o)
         by_cases h3:a=3
         ·subst h3
          by_cases aZ:c=f
          ·subst aZ
           have bV:(c==c)=true:=by simp
           go_wp2_with fail;refine wg ?_
           iterate 13 (go_big_quiet_step (fail))
           refine wq fun nx=>?_
           go_wp2_with fail;go_ret;exact⟨by rw[q.o];simp,by rw[q.o];simpa using mq,B.o.trans gd⟩
          ·have bV:(c==f)=false:=by simpa using aZ
           go_wp2_with fail;refine wg ?_
           iterate 13 (go_big_quiet_step (fail))
           refine wq fun nx=>?_
           go_wp2_with fail;go_ret;exact⟨by rw[q.o];simp[aZ],by rw[q.o,if_neg (fun h=>aZ h.2)];decide,B.o.trans gd⟩
         ·have bV:(a==3)=false:=by simpa using h3
          go_wp2_with fail;refine wg ?_
          iterate 13 (go_big_quiet_step (fail))
          refine wq fun nx=>?_
          go_wp2_with fail;go_ret;exact⟨by rw[q.o];simp[h3],by rw[q.o,if_neg (fun h=>h3 h.1)];decide,B.o.trans gd⟩
        ·have gH:¬((L.length:Int)=3):=by omega
         have q:=Kz (show H=0 by
          rw[K.o]
          show(match L with|[a,b,c]=>_|_=>_)=_
          split
          ·simp at hlen
          ·rfl)
         clear hlen;go_wp2_with fail;go_ret;exact⟨by rw[q.o];rfl,by rw[q.o];decide,B.o.trans gd⟩
       ·have n5:(q0==5)=false:=by simpa using e5
        have E5:=Kz e5;clear e5
        by_cases e6:q0=6
        ·subst e6
         have q:=Kz (show H=if 0≤q2∧q2≤(U.length:Int) then 4 else 0 from K.o)
         go_wp2_with (first|(go_at_call 101;refine(di _ _ _ _).mono ?_;rintro e w' ⟨rfl,rfl⟩))
         go_ways
         all_goals
          go_ret;refine⟨?_,?_,B.o.trans gd⟩
          ·rw[q.o];first|(simp_all;done)|(simp_all;intros;omega)
          ·rw[q.o];split<;>decide
        ·have n6:(q0==6)=false:=by simpa using e6
         have E6:=Kz e6;clear e6
         by_cases e7:q0=7
         ·subst e7
          have q:=Kz (show H=4 from K.o);go_wp2_with fail;go_ret;exact⟨by rw[q.o];rfl,by rw[q.o];decide,B.o.trans gd⟩
         ·have n7:(q0==7)=false:=by simpa using e7
          have E7:=Kz e7;clear e7
          by_cases e8:q0=8
          ·subst e8
           by_cases hlen:L.length=1
           ·obtain⟨a,rfl⟩:∃a,L=[a]:=by
             match L,hlen with
             |[a],_=>exact⟨a,rfl⟩
            clear hlen;obtain⟨fK,gm,he,-,-,o3⟩:=H1.o.open;injection he with ax gF ay;subst ax ay;obtain⟨b,off,rfl,hb⟩:=o3 0 (by simp);have c0:W1.cell? ⟨b,off,none⟩=some (.int .i64 a):=by simpa using(H1.o.fQ (i:=0) (by simp)).1
            have q:=Kz (show H=if a=4 then xD (J,O) q4 q5 else 0 from K.o)
            by_cases h4:a=4
            ·subst h4
             go_wp2_with fail;refine(dY (J,O) q4 _ (Rd.gr HG.o (tg B))).mono ?_;rintro e w' ⟨es,bL,rfl,I,-,x3,rfl⟩;have gD:Gr W1 (W1.ext x3):=gd;generalize W1.ext x3=D at I gD ⊢;have I:Rd.rd bL D es.toList ((bW J q4).getD dE):=I;obtain⟨A,hA⟩:=nm ((bW J q4).getD dE);rw[←hA] at I;have HA:=Kz hA;have mr:=Kz I;obtain⟨s0,s1,gM,gT,vB,rfl,rfl,-,bD,mH,-,-⟩:=Lg I;replace bK:=gD.keep bK;replace fw:=gD.keep fw;replace kT:=blk bK;have mZ:=Kz (B.o.trans gD);clear hA I gD mH;go_wp2_with fail;refine(jA (s0,s1) q5 _ (Rd.gr mr.o gd)).mono ?_;rintro e w' ⟨es,nz,rfl,I,-,x4,rfl⟩;have gE:Gr D ((D.alloc (.cells #[.string s0,.slice gM s1.length gT] 104)).ext x4):=gd;generalize(D.alloc (.cells #[.string s0,.slice gM s1.length gT] 104)).ext x4=E at I gE ⊢;have I:Rd.rd nz E es.toList ((ek s1 q5).getD dR):=I;obtain⟨A2,cK⟩:=nm ((ek s1 q5).getD dR);rw[←cK] at I;have nM:=Kz cK;obtain⟨t0,t1,t2,t3,rfl,rfl,-,mh,bN,mo⟩:=Ld I
             have au:=Kz (show H=t1 by
              rw[q.o]
              show(if (4:Int)=4 then xD (J,O) q4 q5 else 0)=t1
              rw[if_pos rfl]
              show((ek ((bW J q4).getD dE).2 q5).getD dR).2.1=t1
              rw[←HA.o]
              show((ek s1 q5).getD dR).2.1=t1
              rw[←nM.o])
             have nO:=Kz (mZ.o.trans gE);clear cK I gE;go_wp2_with fail;go_ret;exact⟨by rw[au.o];rfl,by rw[au.o];exact bN,nO.o.trans gd⟩
            ·have bV:(a==4)=false:=by simpa using h4
             go_wp2_with fail;go_ret;exact⟨by rw[q.o,if_neg h4];rfl,by rw[q.o,if_neg h4];decide,B.o.trans gd⟩
           ·have gH:¬((L.length:Int)=1):=by omega
            have q:=Kz (show H=0 by
             rw[K.o]
             show(match L with|[a]=>_|_=>_)=_
             split
             ·simp at hlen
             ·rfl)
            clear hlen;go_wp2_with fail;go_ret;exact⟨by rw[q.o];rfl,by rw[q.o];decide,B.o.trans gd⟩
          ·have n8:(q0==8)=false:=by simpa using e8
           have q:=Kz (show H=0 by
            rw[K.o];unfold tyL;rw[if_neg E1.o,if_neg E2.o,if_neg E3.o,if_neg E4.o,if_neg E5.o,if_neg E6.o,if_neg E7.o,if_neg e8])
           clear e8;go_wp2_with fail;go_ret;exact⟨by rw[q.o];rfl,by rw[q.o];decide,B.o.trans gd⟩
end Go.Proofs.YtdhighcpmcdmmaaGreat
