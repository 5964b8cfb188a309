/- Contracts and laws towards ReadsOf, part 36 of 54. No condition. -/
import Derived.Test.YtdhighcpmcdmmaaGreatFx32
import Derived.Test.YtdhighcpmcdmmaaGreatFx28
import Derived.Test.YtdhighcpmcdmmaaGreatFx34
import Derived.Test.YtdhighcpmcdmmaaGreatFx33
set_option maxHeartbeats 32000000
set_option maxRecDepth 10000
set_option linter.unusedVariables false
set_option linter.unusedSimpArgs false
namespace Go.Proofs.YtdhighcpmcdmmaaGreat
open Go.RowKit
open _root_.List (getElem_mem)
open _root_.Option (getD_some)
variable{d:Nat}
variable{n k:Nat}{q0 q1 q2 q3:Int}{q4 q5:ByteArray}{g:af d}{fg:List Nat}{cg:Array Value}{w:World}
def xC(g:af d)(n:ByteArray):Int:=if atS g.1 n<0 then 0 else(hts g g.1.length).getD (atS g.1 n).toNat 0
theorem AO(g:af d)(n:ByteArray)(w:World)(hg:Rd.rd fg w cg.toList g)(hn:0<g.1.length)(X:g.1.length≤1000):
  Qz 234 #[.agg cg,.string n] w (.int .i64 (xC g n)):=by
 obtain⟨Y,q⟩:=nm (xC g n);rw[←q];have E:=Kz q;obtain⟨I,K⟩:=nm (atS g.1 n);have O:=Kz K;have Z:=G8 g.1 n;have ae:=qU (fun s:bC=>decide (s.1=n)) g.1;have ae:-1≤I:=by rw[K];exact ae
 rw[←K] at Z;have HT:=Kz (Ay g g.1.length (Nat.le_refl _));have HN:=Kz hn;have ah:=Kz X;clear q K hn X;have HG:=Kz hg;obtain⟨h,D,aL,aN,aS,aV,aZ,bg,rfl,rfl,-,bq,aj,au,bB,ax,ay⟩:=yt hg;clear hg;simp only at Z
 by_cases B:I<0
 ·have HF:=Kz (show Y=0 by rw[E.o];unfold xC;rw[←O.o,if_pos B])
  delta Qz;go_in;go_wp2_with fail;refine(sQ (h,D) n _ (Rd.gr HG.o gd)).mono ?_;rintro e w' ⟨rfl,x1,rfl⟩;rw[←O.o];go_wp2_with fail;go_ret;exact⟨by rw[HF.o];rfl,gd⟩
 ·obtain⟨k,hk⟩:∃k:Nat,I=k:=⟨I.toNat,by omega⟩
  have HF:=Kz (show Y=(hts (h,D) h.length).getD k 0 by rw[E.o];unfold xC;rw[←O.o,if_neg B,hk];rfl);subst hk;have k0:(0:Int)≤(k:Int):=by omega
  have bD:k<h.length:=by omega
  clear B;delta Qz;go_in;go_wp2_with fail;refine(sQ (h,D) n _ (Rd.gr HG.o gd)).mono ?_;rintro e w' ⟨rfl,x1,rfl⟩;rw[←O.o];go_wp2_with fail;refine(yg (h,D) _ (Rd.gr HG.o gd) HN.o ah.o).mono ?_;rintro e w' ⟨v,fq,rfl,T,-,x2,rfl⟩;obtain⟨H,U⟩:=nm (hts (h,D) h.length);have ai:H.length=h.length:=by rw[U];exact HT.o.1
  change SlR fq _ v (hts (h,D) h.length) at T
  rw[←U] at T;have HH:=Kz U;obtain⟨a,c,rfl,o1,o2,o3⟩:=T.open;have J:k<H.length:=by omega
  have k1:(k:Int)<(H.length:Int):=by omega
  obtain⟨b,off,rfl,hb⟩:=o3 k J;have c1:=(T.fQ J).1;clear U ai;go_wp2_with fail;go_ret;exact⟨by rw[HF.o,←HH.o,List.getD_eq_getElem?_getD,List.getElem?_eq_getElem J];rfl,gd⟩
theorem Bz(g:af d)(n:ByteArray)(w:World)(q:Rd.rd fg w cg.toList g)(B:0<g.1.length)(h:g.1.length≤1000):
  Qz 189 #[.agg cg,.string n] w (.bool (decide (0<xC g n))):=by
 obtain⟨M,s⟩:=nm (xC g n);rw[←s];have E:=Kz s;have H:=Kz B;have D:=Kz h;clear s B h;have I:=Kz q;obtain⟨J,K,Y,Z,ae,ah,ai,aj,rfl,rfl,-,au,O,T,ax,U,X⟩:=yt q;clear q;delta Qz;go_in;go_wp2_with fail;refine(AO (J,K) n _ (Rd.gr I.o gd) H.o D.o).mono ?_;rintro e w' ⟨rfl,x1,rfl⟩;rw[←E.o];go_wp2_with fail;go_ret;exact⟨rfl,gd⟩
def Ga(g:af d):Prop:=∀s∈g.1,0<xC g s.1
def jI(g:af d):Prop:=o7 g∧(∀r∈g.2,kW g r)∧Ga g
def GoodAt(g:af d)(w:World)(e:Ending)(w':World):Prop:=∃c i:Int,e=.returned (.tuple #[.int .i64 c,.int .i64 i])∧(c=0↔jI g)∧Gr w w'
theorem yG(g:af d)(w:World)(hg:Rd.rd fg w cg.toList g)(hl:aP g≤1048576):
  Calls Tryz.prog 125 #[.agg cg] w (GoodAt g w):=by
 have ai:=Kz hl;have HG:=Kz hg;obtain⟨D,E,aj,au,j4,ax,ay,j5,rfl,rfl,-,aL,fu,fw,aN,fA,fK⟩:=yt hg;have bD:=aL.op3;have bH:=aN.op3;clear hg;have aS:wtL bM D+wtL bF E≤1048576:=hl;have ku:D.length≤1048576:=by have:=bT bM D;omega
 have ky:E.length≤1048576:=by have:=bT bF E;omega
 have HL:=Kz aS;clear hl aS;go_in;go_wp2_with fail;refine(wX (D,E) _ (Rd.gr HG.o gd) ai.o).mono ?_;rintro e w' ⟨c,ci,rfl,hc,x1,rfl⟩;have HC:=Kz hc;clear hc
 by_cases h0:c=0
 ·subst h0
  have Z:=Kz (HC.o.1 rfl);clear HC;go_wp2_with fail;generalize hB:((w.alloc (.cells #[.slice aj D.length au,.slice ax E.length ay] 36)).ext x1)=B;have gB:Gr w B:=gb hB;obtain⟨aV,aZ⟩:=kb2 hB (w.heap.size) (.slice aj D.length au) (.slice ax E.length ay);clear hB;have bg:0<D.length:=by have X:1≤D.length:=Z.o.1.1;omega
  have bq:D.length≤1000:=by have X:D.length≤4:=Z.o.1.2;omega
  have bK:=Kz bg;have bL:=Kz bq;clear bg bq
  go_loopw [6] (fun Y wr=>∃k:Nat,k≤E.length∧Ky (∀r∈E.take k,kW (D,E) r)∧Ky (Gr B wr)∧Y=.int .i64 k) (fun Y _=>E.length - (intOf Y).toNat)
  case atStart=>exact⟨0,by omega,Kz (by simp),Kz (Gr.refl _),rfl⟩
  case round=>
   obtain⟨k,hk,U,H,rfl⟩:=hrel
   rename World=>W3
   have J:=gB.trans H.o;have K:=Kz J;have y0:=aV _ H.o;have y1:=aZ _ H.o;have zy:=blk y0
   by_cases I:k<E.length
   ·have ah:=Kz (fun h=>dD I U.o h)
    have T:=Kz (getElem_mem I);have bN:=dI bF E I;have bV:=Kz (show bF E[k]≤1048576 by have:=HL.o;omega);clear bN;obtain⟨b,off,rfl,cK⟩:=bH k I;obtain⟨p0,p1,p2,p3,p4,p5,kz,kE,kL,kQ,kS,kT,kV,kX,kZ,lq,ae,cO,dz,dA,dC,gm,gD,dG,gF,gH,dL,gM,gT,lG,lV,l5,l6,l7,l8,ma⟩:=Lf aN I J;have k0:(0:Int)≤(k:Int):=by omega
    have k1:(k:Int)<(E.length:Int):=by omega
    have iw:=zI1 k (by omega);have dU:=Kz (show j3 (p0,p1,p2,p3,p4,p5) by rw[ae.o];exact Z.o.2.2.1.2.2.1 _ T.o);obtain⟨M,hM⟩:=nm (pB (kW (D,E) (p0,p1,p2,p3,p4,p5)));have O:=Kz hM;clear J hM dz dA dC dG dL;go_wp2_with fail;refine wg ?_
    iterate 8 (go_big_quiet_step ((go_at_call 188;refine aG (yU (D,E) (p0,p1,p2,p3,p4,p5) _ (Rd.gr HG.o ?_) (Rd.gr cO.o ?_) ai.o (by rw[ae.o];exact bV.o) (fun q hq=>(dU.o.2.2.2.2.2.1 q hq).2.1))<;>exact K.o.trans gd)))
    refine wq fun nx=>?_
    rw[←O.o]
    cases M with
    |true=>
     go_wp2_with fail;exact⟨⟨k+1,by omega,Kz (ah.o (by rw[←ae.o];exact dx.1 O.o.symm)),Kz (tg H),by go_num⟩,by simp[intOf];omega⟩
    |false=>
     go_wp2_with fail
     exact bodyPost_ret (v:=.tuple #[.int .i64 7,.int .i64 k]) (by simp[results,Tryz.results125,go_sem]) rfl ⟨7,k,rfl,⟨fun h=>absurd h (by decide),fun h=>by
      have X:=h.2.1 _ T.o;rw[←ae.o] at X;exact absurd X (lM O.o.symm)⟩,K.o.trans gd⟩
   ·obtain rfl:k=E.length:=by omega
    rw[List.take_length] at U;have dW:=U;clear U;go_wp2_with fail;clear y0 y1 zy
    go_loopw [7] (fun Y wr=>∃k:Nat,k≤D.length∧Ky (∀s∈D.take k,0<xC (D,E) s.1)∧Ky (Gr B wr)∧Y=.int .i64 k) (fun Y _=>D.length - (intOf Y).toNat)
    case atStart=>exact⟨0,by omega,Kz (by simp),H,rfl⟩
    case round=>
     clear H K J;obtain⟨k,hk,U,H,rfl⟩:=hrel
     rename World=>W4
     have J:=gB.trans H.o;have K:=Kz J;have y0:=aV _ H.o;have y1:=aZ _ H.o;have zy:=blk y0
     by_cases I:k<D.length
     ·have ah:=Kz (fun h=>dD I U.o h)
      have T:=Kz (getElem_mem I);obtain⟨b,off,rfl,cK⟩:=bD k I;obtain⟨q0,q1,mf,mh,mo,mq,bB,mr,eH,fe,ik,jN,mH,mZ,nz⟩:=K9 aL I J;have k0:(0:Int)≤(k:Int):=by omega
      have k1:(k:Int)<(D.length:Int):=by omega
      have iw:=zI1 k (by omega);obtain⟨M,hM⟩:=nm (decide (0<xC (D,E) q0));have O:=Kz hM;clear J hM eH fe;go_wp2_with fail;refine wg ?_
      iterate 9 (go_big_quiet_step ((go_at_call 189;refine aG (Bz (D,E) q0 _ (Rd.gr HG.o ?_) bK.o bL.o)<;>exact K.o.trans gd)))
      refine wq fun nx=>?_
      rw[←O.o]
      cases M with
      |true=>
       go_wp2_with fail;exact⟨⟨k+1,by omega,Kz (ah.o (by rw[←bB.o];exact of_decide_eq_true O.o.symm)),Kz (tg H),by go_num⟩,by simp[intOf];omega⟩
      |false=>
       go_wp2_with fail
       exact bodyPost_ret (v:=.tuple #[.int .i64 8,.int .i64 k]) (by simp[results,Tryz.results125,go_sem]) rfl ⟨8,k,rfl,⟨fun h=>absurd h (by decide),fun h=>by
        have X:=h.2.2 _ T.o;rw[←bB.o] at X;exact absurd X (of_decide_eq_false O.o.symm)⟩,K.o.trans gd⟩
     ·obtain rfl:k=D.length:=by omega
      rw[List.take_length] at U;go_wp2_with fail;exact bodyPost_ret (v:=.tuple #[.int .i64 0,.int .i64 0]) (by simp[results,Tryz.results125,go_sem]) rfl ⟨0,0,rfl,⟨fun _=>⟨Z.o,dW.o,U.o⟩,fun _=>rfl⟩,K.o⟩
 ·have nM:(c==0)=false:=by simpa using h0
  have jX:(c !=0)=true:=by simpa using h0
  go_wp2_with fail;exact bodyPost_ret (v:=.tuple #[.int .i64 c,.int .i64 ci]) (by simp[results,Tryz.results125,go_sem]) rfl ⟨c,ci,rfl,⟨fun h=>absurd h h0,fun h=>absurd (HC.o.2 h.1) h0⟩,gd⟩
theorem Ao(g:af d)(w:World)(q:Rd.rd fg w cg.toList g)(B:aP g≤1048576):
  Qz 61 #[.agg cg] w (.bool (pB (jI g))):=by
 have D:=Kz B;obtain⟨E,h⟩:=nm (pB (jI g));rw[←h];have s:=Kz h;clear h B;have H:=Kz q;obtain⟨I,J,Y,Z,ae,ah,ai,aj,rfl,rfl,-,au,K,O,ax,T,U⟩:=yt q;clear q;delta Qz;go_in;go_wp2_with fail;refine(yG (I,J) _ (Rd.gr H.o gd) D.o).mono ?_;rintro e w' ⟨c,ci,rfl,hc,x1,rfl⟩;have X:=Kz (show E=decide (c=0) by rw[s.o];exact lZ hc.symm);clear hc;go_wp2_with fail;go_ret;exact⟨aa (by rw[X.o];try rfl),gd⟩
def bX(n:Nat)(x:GE n):Prop:=jh (fun{d} (y:aA d)=>y.1≠8) n x
def UsP(L:List ag)(n:Nat)(x:GE n):Prop:=∃o∈gP n x,o∈L
theorem L9{L:List ag}{q6:List (GE n)}:UsP L (n+1) ((q0,q1,q2,q3,q4,q5,q6):aA n)↔(q0=3∧(q2,q5)∈L)∨∃z∈q6,UsP L n z:=by
 have e:gP (n+1) ((q0,q1,q2,q3,q4,q5,q6):aA n)=(if q0=3 then[(q2,q5)] else[])++q6.flatMap (gP n):=rfl;unfold UsP;rw[e];constructor
 ·rintro⟨o,s,q⟩
  rcases List.mem_append.1 s with h|h
  ·by_cases B:q0=3
   ·rw[if_pos B] at h
    obtain rfl:=List.mem_singleton.1 h;exact .inl ⟨B,q⟩
   ·rw[if_neg B] at h
    cases h
  ·obtain⟨z,D,s⟩:=List.mem_flatMap.1 h
   exact .inr ⟨z,D,o,s,q⟩
 ·rintro(⟨B,q⟩|⟨z,D,o,s,q⟩)
  ·exact⟨_,List.mem_append_left _ (by rw[if_pos B];exact List.mem_singleton.2 rfl),q⟩
  ·exact⟨o,List.mem_append_right _ (List.mem_flatMap.2 ⟨z,D,s⟩),q⟩
def gX(L:List ag):(n:Nat)→GE n→Prop
 |0,x=>PEmpty.elim x
 |n+1,x=>(fun y:aA n=>¬UsP L (n+1) y∨y.1=3∨
   (match y.2.2.2.2.2.2 with
   |[a,b]=>y.1=4∧(((y.2.1=6∨y.2.1=7)∧gX L n a∧gX L n b)∨((y.2.1=8∨y.2.1=12)∧gX L n a∧¬UsP L n b))
   |[a,b,c]=>y.1=5∧¬UsP L n a∧gX L n b∧gX L n c
   |_=>False)) x
def Mg(L:List ag)(n:Nat)(q0 q1:Int)(q6:List (GE n)):Prop:=
 match q6 with
 |[a,b]=>q0=4∧(((q1=6∨q1=7)∧gX L n a∧gX L n b)∨((q1=8∨q1=12)∧gX L n a∧¬UsP L n b))
 |[a,b,c]=>q0=5∧¬UsP L n a∧gX L n b∧gX L n c
 |_=>False
theorem MB{L:List ag}{q6:List (GE n)}:gX L (n+1) ((q0,q1,q2,q3,q4,q5,q6):aA n)↔(¬UsP L (n+1) ((q0,q1,q2,q3,q4,q5,q6):aA n)∨q0=3∨Mg L n q0 q1 q6):=by
 match q6 with
 |[]=>exact Iff.rfl
 |[_]=>exact Iff.rfl
 |[_,_]=>exact Iff.rfl
 |[_,_,_]=>exact Iff.rfl
 |_::_::_::_::_=>exact Iff.rfl
theorem Mr{L:List ag}{q6:List (GE n)}(hu:UsP L (n+1) ((q0,q1,q2,q3,q4,q5,q6):aA n))(q:¬q0=3):gX L (n+1) ((q0,q1,q2,q3,q4,q5,q6):aA n)↔Mg L n q0 q1 q6:=by
 rw[MB];exact⟨fun h=>(h.resolve_left (fun h=>h hu)).resolve_left q,fun h=>.inr (.inr h)⟩
theorem Nt{L:List ag}{q6:List (GE n)}(hu:¬UsP L (n+1) ((q0,q1,q2,q3,q4,q5,q6):aA n)):gX L (n+1) ((q0,q1,q2,q3,q4,q5,q6):aA n):=MB.2 (.inl hu)
theorem Ms{L:List ag}{q6:List (GE n)}(h:q0=3):gX L (n+1) ((q0,q1,q2,q3,q4,q5,q6):aA n):=MB.2 (.inr (.inl h))
theorem Og{L:List ag}{a b:GE n}:Mg L n q0 q1 [a,b]↔(q0=4∧(((q1=6∨q1=7)∧gX L n a∧gX L n b)∨((q1=8∨q1=12)∧gX L n a∧¬UsP L n b))):=Iff.rfl
theorem N7{L:List ag}{a b c:GE n}:Mg L n q0 q1 [a,b,c]↔(q0=5∧¬UsP L n a∧gX L n b∧gX L n c):=Iff.rfl
theorem Ns{L:List ag}{q6:List (GE n)}(q:¬q6.length=2)(s:¬q6.length=3):¬Mg L n q0 q1 q6:=by
 match q6,q,s with
 |[],_,_=>exact fun h=>h
 |[_],_,_=>exact fun h=>h
 |[_,_],q,_=>exact absurd rfl q
 |[_,_,_],_,s=>exact absurd rfl s
 |_::_::_::_::_,_,_=>exact fun h=>h
def OP(p:Int)(xs:List aQ):List ag:=(xs.filter fun a=>decide (a.2.2.1=1)||decide (a.2.2.1=2)).map fun a=>(p,a.1)
def wL(xs:List aQ):List aQ:=xs.filter fun a=>decide (a.2.2.1=1)||decide (a.2.2.1=2)
def occAt(g:af d)(r:aW d)(p:Nat):List ag:=OP (p:Int) (Je g r (p:Int))
def zq(g:af d)(r:aW d):List ag:=(List.range (r.2.2.1.length+1)).flatMap (occAt g r)
def MW(g:af d)(r:aW d)(o:ag):Bool:=((ek (Je g r o.1) o.2).getD dR).2.2.2
def q8(g:af d)(r:aW d):List ag:=(zq g r).filter (MW g r)
theorem OG{r:aW d}{o:ag}(h:o∈zq g r):0≤o.1∧o.1≤(r.2.2.1.length:Int):=by
 obtain⟨p,q,h⟩:=List.mem_flatMap.1 h;rw[List.mem_range] at q;obtain⟨a,-,rfl⟩:=List.mem_map.1 h;exact⟨by simp,by simp;omega⟩
theorem Ov{r:aW d}{o:ag}(h:0≤o.1∧o.1≤(r.2.2.1.length:Int)):MW g r o=((jf g r o).getD dR).2.2.2:=by
 unfold MW jf;rw[if_pos h]
def NC(g:af d)(r:aW d):Prop:=(∀q∈r.2.2.2.2.1,q.1∈q8 g r→gX (q8 g r) (d+1) q.2)∧∀q∈r.2.2.2.2.1,bX (d+1) q.2
def Mf(g:af d):Prop:=∀s∈g.1,∀a∈s.2,a.2.2.1≠3
def Mx(g:af d):Prop:=Mf g∧(∀r∈g.2,NC g r)∧jI g
theorem NR(E:Mf g)(H:jI g){r:aW d}(I:r∈g.2):r.2.2.2.2.2=[]:=by
 rcases List.eq_nil_or_concat r.2.2.2.2.2 with h|⟨cs,c,h⟩
 ·exact h
 ·exfalso
  have hc:c∈r.2.2.2.2.2:=by rw[h];simp
  have q:=((H.2.1 r I).2 c hc).2.2;unfold bW ek at q
  cases B:g.1.find? (fun s=>decide (s.1=c.1)) with
  |none=>
   rw[B] at q;simp[dE,dR] at q
  |some s=>
   rw[B,getD_some] at q
   cases D:s.2.find? (fun a=>decide (a.1=c.2.1)) with
   |none=>
    rw[D] at q;simp[dR] at q
   |some a=>
    rw[D,getD_some] at q;exact E s (List.mem_of_find?_eq_some B) a (List.mem_of_find?_eq_some D) q
theorem Oy:(jI g∧(∀r∈g.2,∀x∈nH r,bX (d+1) x)∧Mf g∧∀r∈g.2,∀q∈r.2.2.2.2.1,q.1∈q8 g r→gX (q8 g r) (d+1) q.2)↔Mx g:=by
 constructor
 ·rintro⟨B,I,D,E⟩
  exact⟨D,fun r h=>⟨E r h,fun q H=>I r h q.2 (List.mem_append_left _ (List.mem_map_of_mem H))⟩,B⟩
 ·rintro⟨D,E,B⟩
  refine⟨B,fun r h x s=>?_,D,fun r h=>(E r h).1⟩;rcases List.mem_append.1 s with s|s
  ·obtain⟨q,H,rfl⟩:=List.mem_map.1 s
   exact(E r h).2 q H
  ·rw[NR D B h] at s
   cases s
abbrev gV:=ag×Int
theorem Np{fp:List Nat}{cs:Array Value}(q:Int)(s:ByteArray)(q1:Int)(h:Rd.rd (α:=gV) fp w cs.toList ((q,s),q1)):
  cs=#[.int .i64 q,.string s,.int .i64 q1]∧fp=(([]++[])++[])∧(Lit.int .i64 q).wf=true∧s.size≤maxLen∧(Lit.int .i64 q1).wf=true:=by
 generalize E:cs.toList=l at h;obtain⟨_,_,_,_,rfl,rfl,⟨_,_,_,_,rfl,rfl,⟨rfl,rfl,B⟩,⟨rfl,rfl,D⟩⟩,⟨rfl,rfl,H⟩⟩:=h;exact⟨Array.toList_inj.1 (by simpa using E),rfl,B,D,H⟩
theorem OM{fp:List Nat}{c:Array Value}{x:gV}(h:Rd.rd fp w c.toList x):
 ∃q s q1,((q,s),q1)=x∧c=#[.int .i64 q,.string s,.int .i64 q1]∧Ky (fp=[])∧(Lit.int .i64 q).wf=true∧s.size≤maxLen∧(Lit.int .i64 q1).wf=true:=by
 obtain⟨⟨q,s⟩,q1⟩:=x;obtain⟨rfl,H,B,D,E⟩:=Np q s q1 h;exact⟨_,_,_,rfl,rfl,Kz H,B,D,E⟩
theorem Od{f:List Nat}{u:World}{b o m:Nat}{xs:List (gV)}(h:SlR f w (.slice (some ⟨b,o,none⟩) n m) xs)(J:k<xs.length)(g:Gr w u):
 ∃q s q1,Ky (((q,s),q1)=xs[k])∧Ky (Rd.rd (α:=gV) [] w [.int .i64 q,.string s,.int .i64 q1] ((q,s),q1))∧(Lit.int .i64 q).wf=true∧s.size≤maxLen∧(Lit.int .i64 q1).wf=true∧u.cell? ⟨b,o+k*3,none⟩=some (.int .i64 q)∧u.cell? ⟨b,o+k*3+1,none⟩=some (.string s)∧u.cell? ⟨b,o+k*3+2,none⟩=some (.int .i64 q1)∧b<u.heap.size:=by
 obtain⟨_,O,hc,E⟩:=h.el J;obtain⟨q,s,q1,H,rfl,K,B,D,I⟩:=OM E;obtain rfl:=K.o;have z:=g.keep (hc 0 _ rfl);exact⟨_,_,_,Kz H,Lt H E,B,D,I,z,g.keep (hc 1 _ rfl),g.keep (hc 2 _ rfl),blk z⟩
theorem Mo(h:Int)(q:ByteArray)(q1:Int)(s:(Lit.int .i64 h).wf=true)(B:q.size≤maxLen)(D:(Lit.int .i64 q1).wf=true):
  Rd.rd (α:=gV) ((([]++[])++[])) w [.int .i64 h,.string q,.int .i64 q1] ((h,q),q1):=⟨_,_,_,_,rfl,rfl,⟨_,_,_,_,rfl,rfl,⟨rfl,rfl,s⟩,⟨rfl,rfl,B⟩⟩,⟨rfl,rfl,D⟩⟩
theorem NM{α:Type}{xs:List α}(h:xs.length=2):∃a b,xs=[a,b]:=by
 match xs,h with
 |[a,b],_=>exact⟨a,b,rfl⟩
theorem MI{α:Type}{xs:List α}(h:xs.length=3):∃a b c,xs=[a,b,c]:=by
 match xs,h with
 |[a,b,c],_=>exact⟨a,b,c,rfl⟩
def Lx:List gV→ag→Int
 |[],_=>0
 |s::S,o=>if s.1=o then s.2 else Lx S o
theorem Nf{S:List gV}{o:ag}(h:∀s∈S,s.1≠o):Lx S o=0:=by
 induction S with
 |nil=>rfl
 |cons s S q=>
  unfold Lx;rw[if_neg (h s (by simp)),q fun z B=>h z (List.mem_cons_of_mem _ B)]
theorem MP{S:List gV}{o:ag}(q:k<S.length)(h:∀s∈S.take k,s.1≠o)(e:S[k].1=o):Lx S o=S[k].2:=by
 induction S generalizing k with
 |nil=>simp at q
 |cons s S B=>
  unfold Lx
  cases k with
  |zero=>rw[if_pos (by simpa using e)];rfl
  |succ k=>
   rw[if_neg (h s (by simp))];simpa using B (by simpa using q) (fun z D=>h z (by rw[List.take_succ_cons];exact List.mem_cons_of_mem _ D)) (by simpa using e)
def mE(S:List gV)(lit:Int)(ids:List Int):(n:Nat)→GE n→Int
 |0,x=>PEmpty.elim x
 |n+1,x=>(fun y:aA n=>
  if y.1=1 then y.2.1
  else if y.1=2 then lit
  else if y.1=3 then Lx S (y.2.2.1,y.2.2.2.2.2.1)
  else if y.1=4 then(match y.2.2.2.2.2.2 with|[a,b]=>opV y.2.1 (mE S lit ids n a) (mE S lit ids n b)|_=>0)
  else if y.1=5 then(match y.2.2.2.2.2.2 with|[a,b,c]=>if mE S lit ids n a=0 then mE S lit ids n c else mE S lit ids n b|_=>0)
  else if y.1=6 then ids.getD y.2.2.1.toNat 0
  else 0) x
section
variable{S:List gV}{lit:Int}{ids:List Int}{n:Nat}{q1 q2 q3:Int}{q4 q5:ByteArray}{q6:List (GE n)}
theorem Oc:mE S lit ids (n+1) ((1,q1,q2,q3,q4,q5,q6):aA n)=q1:=rfl
theorem N8:mE S lit ids (n+1) ((2,q1,q2,q3,q4,q5,q6):aA n)=lit:=rfl
theorem NK:mE S lit ids (n+1) ((3,q1,q2,q3,q4,q5,q6):aA n)=Lx S (q2,q5):=rfl
theorem Ob{a b:GE n}:mE S lit ids (n+1) ((4,q1,q2,q3,q4,q5,[a,b]):aA n)=opV q1 (mE S lit ids n a) (mE S lit ids n b):=rfl
theorem N9{a b c:GE n}:mE S lit ids (n+1) ((5,q1,q2,q3,q4,q5,[a,b,c]):aA n)=if mE S lit ids n a=0 then mE S lit ids n c else mE S lit ids n b:=rfl
theorem Oj:mE S lit ids (n+1) ((6,q1,q2,q3,q4,q5,q6):aA n)=ids.getD q2.toNat 0:=rfl
theorem Om:mE S lit ids (n+1) ((7,q1,q2,q3,q4,q5,q6):aA n)=0:=rfl
theorem Oo:mE S lit ids (n+1) ((8,q1,q2,q3,q4,q5,q6):aA n)=0:=rfl
end
def LdP{n:Nat}(y:aA n):Prop:=(1≤y.1∧y.1≤8)∧y.2.2.2.2.2.2.length=eY y.1∧(y.1=6→0≤y.2.2.1)
theorem Ml{p q:{d:Nat}→aA d→Prop}(h:∀{d:Nat} (y:aA d),p y→q y):∀(n:Nat) (x:GE n),jh (fun{d} y=>p y) n x→jh (fun{d} y=>q y) n x
 |0,x,_=>PEmpty.elim x
 |n+1,x,s=>⟨h _ s.1,fun z B=>Ml (fun{d} y=>h y) n z (s.2 z B)⟩
theorem Ny{x:aA n}(h:Da x):jh (fun{d} y=>LdP y) (n+1) x:=Ml (fun{d} y hy=>⟨hy.1,hy.2.1.1,fun e=>(hy.2.2.2.2.1 e).1⟩) (n+1) x h.2.2
theorem LdP.two{q6:List (GE n)}(h:LdP ((q0,q1,q2,q3,q4,q5,q6):aA n))(s:q0=4):∃a b,q6=[a,b]:=by
 have q:q6.length=eY q0:=h.2.1;rw[s] at q
 match q6,q with
 |[a,b],_=>exact⟨a,b,rfl⟩
theorem LdP.three{q6:List (GE n)}(h:LdP ((q0,q1,q2,q3,q4,q5,q6):aA n))(s:q0=5):∃a b c,q6=[a,b,c]:=by
 have q:q6.length=eY q0:=h.2.1;rw[s] at q
 match q6,q with
 |[a,b,c],_=>exact⟨a,b,c,rfl⟩
theorem LdP.one{q6:List (GE n)}(h:LdP ((q0,q1,q2,q3,q4,q5,q6):aA n))(s:q0=8):∃a,q6=[a]:=by
 have q:q6.length=eY q0:=h.2.1;rw[s] at q
 match q6,q with
 |[a],_=>exact⟨a,rfl⟩
theorem cB{fx:List Nat}{W:World}{D:Option Addr}{X:Nat}{xs:List (GE n)}(h:SlR fx W (.slice D xs.length X) xs)(s:k<xs.length):
  ∃b off E H I J K O T q,D=some ⟨b,off,none⟩∧b∈fx∧Rd.rd q W [E,H,I,J,K,O,T] xs[k]∧(∀c∈q,c∈fx)∧
   W.cell? ⟨b,off+k*7,none⟩=some E∧W.cell? ⟨b,off+k*7+1,none⟩=some H∧W.cell? ⟨b,off+k*7+2,none⟩=some I∧W.cell? ⟨b,off+k*7+3,none⟩=some J∧W.cell? ⟨b,off+k*7+4,none⟩=some K∧W.cell? ⟨b,off+k*7+5,none⟩=some O∧W.cell? ⟨b,off+k*7+6,none⟩=some T:=by
 obtain⟨e,rfl⟩:∃e,n=e+1:=by
  cases n with
  |zero=>exact PEmpty.elim (xs[k])
  |succ e=>exact⟨e,rfl⟩
 obtain⟨a,c,Y,-,-,Z⟩:=h.open;injection Y with e1 e2 e3;obtain⟨b,off,rfl,hb⟩:=Z k s;subst e1;obtain⟨cs,q,hc,B,hs⟩:=h.at s;have hm:=SlR.vY h (fun e0=>by rw[e0] at s;simp at s);obtain⟨y,hy⟩:=nm (xs[k]);rw[←hy] at B ⊢;obtain⟨p0,p1,p2,p3,p4,p5,p6⟩:=(y:aA e);obtain⟨vp,fq,U,-⟩:=aF (cs:=cs.toArray) p0 p1 p2 p3 p4 p5 p6 (show Rd.rd (α:=aA e) q W cs.toArray.toList _ from B);obtain rfl:=toL U;have hn:Rd.n (GE (e+1))=7:=rfl;rw[hn] at hc;exact⟨b,off,_,_,_,_,_,_,_,q,rfl,hm,B,hs,hc 0 _ rfl,hc 1 _ rfl,hc 2 _ rfl,hc 3 _ rfl,hc 4 _ rfl,hc 5 _ rfl,hc 6 _ rfl⟩
def qb(g:af d)(t:List aT)(L:List av)(V:List Int)(p:Nat)(k:Int):List gV:=
 match nth t k with
 |none=>[]
 |some m=>(((bW g.1 (leftOf g m)).getD dE).2).map fun a=>(((p:Int),a.1),V.getD (gL L (m.1,a.1)).toNat 0)
def slotsOf(g:af d)(t:List aT)(L:List av)(V:List Int)(i:Int):List gV:=
 match nth t i with
 |none=>[]
 |some m=>(List.range (m.2.2.2.2.2.length+1)).flatMap fun p=>qb g t L V p ((i::m.2.2.2.2.2).getD p (-1))
def NV(t:List aT)(i:Int):Int:=match nth t i with|none=>0|some n=>n.2.2.2.1
noncomputable def OJ(g:af d)(t:List aT)(L:List av)(V:List Int)(o:Option (ig d)):Int:=
 match o with
 |none=>0
 |some e=>if pB (Da e.2)=true then mE (slotsOf g t L V e.1) (NV t e.1) (iB t e.1) (d+1) e.2 else 0
theorem Mq{L:List av}{x:av}(h:x∈L):0≤gL L x:=by
 unfold gL
 induction L with
 |nil=>cases h
 |cons y B s=>
  unfold idxOf
  by_cases q:y=x
  ·simp[q]
  ·have D:=s ((List.mem_cons.1 h).resolve_left fun e=>q e.symm)
   simp only[decide_eq_false q];simp
   split<;>omega
noncomputable def F8(g:af d)(t:List aT)(L:List av)(V:List Int)(x:av):Int:=OJ g t L V (dS g t x)
theorem NY{t:List aT}(h:fP g t=true)(s:k<t.length){a:aQ}(B:a∈((bW g.1 (leftOf g t[k])).getD dE).2):∃j:Nat,gL (bU g t) (t[k].1,a.1)=j∧j<(bU g t).length:=by
 have hm:(t[k].1,a.1)∈bU g t:=by
  unfold bU;rw[if_pos h];exact List.mem_flatMap.2 ⟨t[k],getElem_mem s,List.mem_map.2 ⟨a,B,rfl⟩⟩
 rcases LY (bU g t) (t[k].1,a.1) with q|⟨j,q,D,-⟩
 ·exfalso
  have E:=Mq hm;omega
 ·exact⟨j,q,D⟩
theorem Md{t:List aT}(h:(bU g t).length≠0):fP g t=true:=by
 cases e:fP g t with
 |true=>rfl
 |false=>
  exfalso
  apply h;unfold bU;rw[if_neg (by rw[e];decide)];rfl
def Oz(g:af d)(t:List aT)(V:List Int):Prop:=
 Mx g∧(bU g t).length≠0∧(bU g t).length=V.length∧∀i (h:i<(bU g t).length),V.getD i 0=F8 g t (bU g t) V (bU g t)[i]
end Go.Proofs.YtdhighcpmcdmmaaGreat
