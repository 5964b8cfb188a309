/- Contracts and laws towards ReadsOf, part 48 of 54. No condition. -/
import Derived.Test.YtleafadpfeibfaaGreatRx46
import Derived.Test.YtleafadpfeibfaaGreatRx45
import Derived.Test.YtleafadpfeibfaaGreatRx44
set_option maxHeartbeats 32000000
set_option maxRecDepth 10000
set_option linter.unusedVariables false
set_option linter.unusedSimpArgs false
namespace Go.Proofs.YtleafadpfeibfaaGreat
open Go.RowKit
variable{d:Nat}
section
variable{w0:World}{g:af d}{t:List aT}{L:List av}{ag0:Option Addr}{kg0:Nat}{ag1:Option Addr}{kg1:Nat}{at_:Option Addr}{kt:Nat}{aL:Option Addr}{kL:Nat}{bz bv bk bs br f:Nat}
def Kn(w0:World)(g:af d)(t:List aT)(L:List av)(ag0:Option Addr)(kg0:Nat)(ag1:Option Addr)(kg1:Nat)(at_:Option Addr)(kt:Nat)(aL:Option Addr)(kL:Nat)(bz bv bk bs br f:Nat)(G:Eng→Int→Int→Res):Prop:=
 ∀(k:Nat) (hk:k<L.length) (fp:List Nat) (s:Eng) (W:World),ImG w0 g t L ag0 kg0 ag1 kg1 at_ kt aL kL bz bv bk bs br f fp (some s) W→s.on L.length k→s.reads.getD k []=[]→
  Calls Tryz.prog 107 #[.pointer (some ⟨bz,0,none⟩),.int .i64 (k:Int)] W (Got (ImG w0 g t L ag0 kg0 ag1 kg1 at_ kt aL kL bz bv bk bs br f) fp W (BA g t L G L[k] k s))
def Jk(B:World)(o:Option (ig d))(h q:Value)(wr:World):Prop:=
 ∃b cs fr,h=.pointer (some ⟨b,0,none⟩)∧q=.bool o.isSome∧Gr B wr∧(∀j v,cs[j]?=some v→wr.cell? ⟨b,j,none⟩=some v)∧Rd.rd fr wr cs (o.getD qW)∧(∀c∈fr,B.heap.size≤c)∧B.heap.size≤b
theorem KR(E:EnvD w0 g t L ag0 kg0 ag1 kg1 at_ kt aL kL){G:Eng→Int→Int→Res}
  (q8:∀node k m,node<t.length→(∃h:node<t.length,t[node].2.2.2.2.2.length=m)→k<L.length→EvI w0 g t L ag0 kg0 ag1 kg1 at_ kt aL kL bz bv bk bs br f G node k m (d+1))
  (fu:Kn w0 g t L ag0 kg0 ag1 kg1 at_ kt aL kL bz bv bk bs br f G):
  Kh w0 (.slice ag0 g.1.length kg0) (.slice ag1 g.2.length kg1) (.slice at_ t.length kt) (.slice aL L.length kL) L L.length bz bv bk bs br f (KM g t L G):=by
 intro fp s W k hS gD hr
 have hk:k<L.length:=by
  have h1:=hS.2.sl
  by_cases h2:k<L.length
  ·exact h2
  ·exfalso
   have h3:=gD.1.2;simp only[Int.toNat_natCast] at h3;rw[sw (by omega)] at h3;exact absurd h3 (by decide)
 have HE:=Kz E;have xc:=Kz q8;have gF:=Kz fu;have HS:=Kz hS;have HC:=Kz hS.1;have q9:=Kz gD;have sO:=Kz hr;obtain⟨fl,hl⟩:=E.hL;obtain⟨a9,k9,gT,x9,yc,uf⟩:=hl.open;injection gT with gT _ yu;subst gT;subst yu;obtain⟨bL,oL,rfl,zH⟩:=uf k hk;obtain⟨i0,i1,gV,gX⟩:=SlR.iX (show SlR fl w0 (.slice (some ⟨bL,oL,none⟩) L.length kL) L from hl) hk;have uo:=Kz (gF.o k hk fp s);obtain⟨X,hX⟩:=nm (L[k])
 have ak:=Kz (show KM g t L G s k=if ((ed g t X).getD dR).2.2.1=3 then BA g t L G X k s else match zV g t X with|none=>some (0,s)|some p=>eX g t L G p.1.toNat k (d+1) p.2 s by
  unfold KM;rw[getD_at (z:=iN) hk,←hX];rfl)
 rw[←hX] at i0 i1 gV gX uo;obtain⟨x0,x1⟩:=X;have HX:=Kz (fun W=>bZ (w:=W) x0 x1 gV gX);have j0:=HC.o.gr.keep i0;have j1:=HC.o.gr.keep i1;obtain⟨y0,y1,y2,y3,y9⟩:=HC.o.fixed;have n0:(0:Int)≤(k:Int):=by omega
 have n1:(k:Int)<(L.length:Int):=by omega
 obtain⟨y5,ik⟩:=nm (KM g t L G s k);rw[←ik] at ak ⊢;clear E q8 fu hS gD hr hl x9 yc uf i0 i1 gV gX hX ik gF;simp only at j0 j1;go_in;go_wp2_with fail;obtain⟨B,hB⟩:=nm (W.alloc (.cells #[.int .i64 x0,.string x1] 45));rw[←hB];have gB:Gr W B:=by rw[hB];exact gd
 have VX:=Kz (show az B W.heap.size 45 [.int .i64 x0,.string x1] by rw[hB];exact az.new rfl);have iw:=Kz gB;have u0:=gB.keep y0;have u1:=gB.keep y1;have u2:=gB.keep y2;obtain⟨dS,dV⟩:=VX.o.c2;have k0:=fun(w':World) (h:Gr B w')=>(⟨h.keep u0,h.keep u1,h.keep u2,h.keep dS,h.keep dV⟩:_∧_∧_∧_∧_)
 obtain⟨A,hA⟩:=nm ((ed g t (x0,x1)).getD dR);have HA:=Kz hA;rw[←hA] at ak;clear hB gB y0 y1 y2 y3 y9 j0 j1 hA;obtain⟨fg,hg⟩:=HE.o.hg;obtain⟨ft,ht⟩:=HE.o.ht;have uq:=Kz hg;have uz:=Kz ht;clear hg ht
 go_cut [6] (fun s6 wr=>GX B A s6 wr)
 case first=>
  go_region_held3 (fun w'=>Gr B w') (exact ga)
   (first|(go_at_call 106;refine(rJ g t (x0,x1) _ (Rd.gr uq.o ((HC.o.gr.trans iw.o).trans gd)) (Rd.gr uz.o ((HC.o.gr.trans iw.o).trans gd)) (HX.o _)).mono ?_;rintro e w' ⟨es,fq,rfl,hr,ve,z9,rfl⟩;obtain⟨p0,p1,p2,p3,hyp,rfl,zL,kr,zO,z8⟩:=Ld (x:=(ed g t (x0,x1)).getD dR) hr;have ku:=Kz hyp;have aZ:=Lt hyp hr;clear hr hyp;obtain⟨bb,J⟩:∃b:Bool,b=(ed g t (x0,x1)).isSome:=⟨_,rfl⟩;rw[←J];have vB:=Kz J;clear J))
  all_goals
   go_wp2_with fail;go_meet;have y7:A=(p0,p1,p2,p3):=HA.o.trans ku.o.symm;rw[y7];refine⟨_,rfl,gd,?_⟩;exact kd
 case rest=>
  obtain⟨b6,rfl,g6,c2⟩:=hcut
  rename World=>W2
  have au:=Kz (iw.o.trans g6)
  by_cases hm:A.2.2.1=3
  ·have O:=Kz (ak.o.trans (if_pos hm))
   have e3:(A.2.2.1==3)=true:=by simp[hm]
   obtain⟨AM,bg⟩:=nm (A.2.2.1);rw[←bg] at e3 c2;clear bg hm k0 u0 u1 u2 dS dV g6;go_wp2_with fail;refine(uo.o _ (HS.o.grow (tg au)) q9.o sO.o).mono ?_;rintro e w4 ax;have bH:=Kz (ax.lift (W:=W) (MvW.dm (tg au)) O.o);obtain⟨v4,f4,rfl,-⟩:=ax;go_wp2_with fail;go_ret;exact bH.o
  ·have O:=Kz (ak.o.trans (if_neg hm))
   have e3:(A.2.2.1==3)=false:=by simpa using hm
   obtain⟨AM,bg⟩:=nm (A.2.2.1);rw[←bg] at e3 c2;have t0:=g6.keep u0;have t1:=g6.keep u1;have t2:=g6.keep u2;have t3:=g6.keep dS;have t4:=g6.keep dV;clear bg hm k0 u0 u1 u2 dS dV g6;have k0:=fun(w':World) (h:Gr W2 w')=>(⟨h.keep t0,h.keep t1,h.keep t2,h.keep t3,h.keep t4⟩:_∧_∧_∧_∧_)
   obtain⟨D,hD⟩:=nm (zV g t (x0,x1));have HD:=Kz hD;rw[←hD] at O;clear hD;go_wp2_with fail
   go_cut [8,9] (fun s8 s9 wr=>Jk W2 D s8 s9 wr)
   case first=>
    go_region_held3 (fun w'=>Gr W2 w') (exact ga)
     (first|(go_at_call 108;refine(CZ g t (x0,x1) _ (Rd.gr uq.o ((HC.o.gr.trans au.o).trans gd)) (Rd.gr uz.o ((HC.o.gr.trans au.o).trans gd)) (HX.o _) HE.o.wg).mono ?_;rintro e w' ⟨es,fq,rfl,hr,ve,z9,rfl⟩;obtain⟨p0,T,U,V,Y,Z,ae,ah,wF,wL,zy,hyp,rfl,-,kr,bR,bX,cB,cK,cO,dB,ay,zq,zu⟩:=Lp (x:=(zV g t (x0,x1)).getD qW) hr;have ku:=Kz hyp;have aZ:=Lt hyp hr;clear hr hyp;obtain⟨bb,J⟩:∃b:Bool,b=(zV g t (x0,x1)).isSome:=⟨_,rfl⟩;rw[←J];have vB:=Kz J;clear J))
    all_goals
     go_wp2_with fail;go_meet;have fe:∀c∈fq,_≤c:=fun c hc=>(ve c hc).resolve_left (by simp)
     have J:bb=D.isSome:=by rw[HD.o];exact vB.o
     refine⟨_,[.int .i64 p0,.int .i64 T,.int .i64 U,.int .i64 V,.int .i64 Y,.string Z,.string ae,.slice wF ah.length wL],fq,rfl,by rw[J],gd,fun j u q=>?_,?_,fun c hc=>by have h:=fe c hc;simp at h;omega,by first|exact Nat.le_refl _|(simp;done)|(simp;omega)⟩
     ·match j,q with
      |0,q=>obtain rfl:=Option.some.inj q;exact kd
      |1,q=>obtain rfl:=Option.some.inj q;exact kd
      |2,q=>obtain rfl:=Option.some.inj q;exact kd
      |3,q=>obtain rfl:=Option.some.inj q;exact kd
      |4,q=>obtain rfl:=Option.some.inj q;exact kd
      |5,q=>obtain rfl:=Option.some.inj q;exact kd
      |6,q=>obtain rfl:=Option.some.inj q;exact kd
      |7,q=>obtain rfl:=Option.some.inj q;exact kd
     ·rw[HD.o,←ku.o]
      first
       |(refine Rd.gr aZ.o ?_;(repeat(first|exact Gr.refl _|apply Gr.ext|apply Gr.alloc|apply Gr.drew));done)
       |((with_reducible refine Rd.mono (dO ?_) aZ.o);exact fun c hc e=>by subst e;have:=fe _ hc;simp at this;omega)
       |((with_reducible refine Rd.mono (dM ?_) aZ.o);exact fun c hc e=>by subst e;have:=fe _ hc;simp at this;omega)
       |((with_reducible refine Rd.mono (iT ?_) aZ.o);exact fun c hc e=>by subst e;have:=fe _ hc;simp at this;omega)
   case rest=>
    obtain⟨b8,y8,vD,rfl,rfl,g8,I,ky,vF,vG⟩:=hcut;have za:=Kz vG;clear vG
    rename World=>W5
    have bq:=Kz (au.o.trans g8);clear k0 t0 t1 t2 t3 t4 c2
    cases D with
    |none=>
     simp only at O;clear I ky;go_wp2_with fail;go_ret;rw[O.o];exact ImS.nZ (by decide) (HC.o.grow (tg bq)) HS.o.2 (MvW.dm (tg bq))
    |some P=>
     simp only at O;obtain⟨m,hm,zb,lq,oH⟩:=Gb HE.o.good HE.o.tree HD.o.symm;obtain⟨p0,T,U,V,Y,Z,ae,ah⟩:=P;obtain⟨vp,A7,vL,o9,kr,bR,bX,cB,cK,cO,dB,ay⟩:=jE (cs:=y8.toArray) p0 T U V Y Z ae ah (by simpa using ky);obtain rfl:=toL vL;have vO:=Kz (bJ (d:=d) (w:=W5) T U V Y Z ae ah bR bX cB cK cO dB ay);obtain⟨ze,zf,rfl,-,-,-⟩:=ay.open;simp only[List.nil_append] at o9 vO;subst o9;simp only at hm lq oH O;subst hm;have zg:=Kz (show y5=eX g t L G m k (d+1) (T,U,V,Y,Z,ae,ah) s by rw[O.o,Int.toNat_natCast]);have d0:=I 0 _ rfl;have d1:=I 1 _ rfl;have d2:=I 2 _ rfl;have d3:=I 3 _ rfl;have d4:=I 4 _ rfl;have d5:=I 5 _ rfl;have d6:=I 6 _ rfl;have d7:=I 7 _ rfl;have zl:=Kz lq;have qb:=Kz zb;have w9:=Kz (show(s.reads.getD k []).length+cZ (d+1) (T,U,V,Y,Z,ae,ah)≤2000 by rw[sO.o];simpa using(show cZ (d+1) (T,U,V,Y,Z,ae,ah)≤2000 by omega))
     have zn:=Kz (show Ap vD fp from fun c hc hf=>by
      have h1:=vF c hc;have h2:=HC.o.lt c hf;have h3:=au.o.size;omega)
     clear I ky vL kr bR bX cB cK cO dB ay O lq oH vF g8;obtain⟨o5,rfl⟩:=nm (m)
     have aj:=Kz (show b8∉fp from fun hm=>by
      have h1:=HC.o.lt b8 hm;have h2:=au.o.size;have h3:=za.o;omega)
     have BM:=fun(w':World) (h:Wr fp W5 w')=>(⟨h.aO d0 aj.o,h.aO d1 aj.o,h.aO d2 aj.o,h.aO d3 aj.o,h.aO d4 aj.o,h.aO d5 aj.o,h.aO d6 aj.o,h.aO d7 aj.o⟩:_∧_∧_∧_∧_∧_∧_∧_)
     go_wp2_with fail;refine wp_region_held_drew (S:=(fun w'=>Wr fp W5 w')) (by kernel_rfl) ((gd:Gr W5 W5.drew).eF _) (fun zx=>?_);refine aK 0 51 ?_;refine aK 1 52 ?_;refine aK 3 54 ?_;refine aK 5 56 ?_;refine aK 2 53 ?_;refine aK 6 57 ?_;refine gy [4] ?_;refine AllReadyH.cons rfl (fun K hK=>?_) AllReadyH.nil;go_simp
     go_at_call 109
     refine(EC HE.o qb.o fp (some s) _ (by_:=k) (HS.o.grow (tg bq))).mono ?_;rintro e W6 ⟨pe,pn,pb,ai,li,ki,rfl,hR,g6⟩;have zo:=Kz hR;have bB:=Kz (Gr.trans gd g6:Gr W5 W6);clear hR g6;refine hK.out _ _ (bB.o.eF _) (fun EB=>?_);clear hK K
     try simp only[Act.put,uq1,uq2,uq3]
     refine gy [7] ?_
     refine AllReadyH.cons rfl (fun K hK=>?_) AllReadyH.nil
     go_simp
     go_at_call 110
     refine(xc.o o5 k _ qb.o ⟨qb.o,rfl⟩ hk (T,U,V,Y,Z,ae,ah) vD #[.int .i64 T,.int .i64 U,.int .i64 V,.int .i64 Y,.string Z,.string ae,.slice ze ah.length zf] fp (some s) _ pe pn pb ai li ki (Rd.gr vO.o bB.o) zn.o (HS.o.grow (bq.o.trans bB.o)) zo.o zl.o (fun s1 h1=>by obtain rfl:=Option.some.inj h1;exact⟨q9.o,w9.o⟩)).mono ?_;rintro e w4 ax;have bH:=Kz (ax.lift (W:=W) (MvW.dm (bq.o.trans bB.o)) zg.o);obtain⟨v4,f4,rfl,-,-,-,vR⟩:=ax;have vX:Wr fp W5 w4:=((MvW.dm bB.o).trans vR).wr;clear vR;refine hK.out _ _ vX (fun E5=>?_);clear hK K vX
     try simp only[Act.put,uq1,uq2,uq3]
     refine aK 8 4 ?_
     refine wpAnyH_done (by kernel_rfl) ?_ _
     skip;go_wp2_with fail;go_ret;exact bH.o
end
end Go.Proofs.YtleafadpfeibfaaGreat
namespace Go.Proofs.YtleafadpfeibfaaGreat
open Go.RowKit
variable{d:Nat}
section
variable{w0:World}{g:af d}{t:List aT}{L:List av}{ag0:Option Addr}{kg0:Nat}{ag1:Option Addr}{kg1:Nat}{at_:Option Addr}{kt:Nat}{aL:Option Addr}{kL:Nat}{bz bv bk bs br f:Nat}
theorem IU(E:EnvD w0 g t L ag0 kg0 ag1 kg1 at_ kt aL kL){G:Eng→Int→Int→Res}(A7:KpG L G)(BM:ED g t)
  (EB:∀node k m,node<t.length→(∃h:node<t.length,t[node].2.2.2.2.2.length=m)→k<L.length→EvI w0 g t L ag0 kg0 ag1 kg1 at_ kt aL kL bz bv bk bs br f G node k m (d+1))
  (oH:∀node (h:node<t.length),∀c∈nT g t node,jh (fun{d} y=>NdP t[node].2.2.2.2.2.length y) (d+1) c.2.2.1∧jh (fun{d} y=>NdP t[node].2.2.2.2.2.length y) (d+1) c.2.2.2)
  (NK:t.length≤16) (k:Nat) (hk:k<L.length) (fp:List Nat) (s:Eng) (W:World) (hS:ImG w0 g t L ag0 kg0 ag1 kg1 at_ kt aL kL bz bv bk bs br f fp (some s) W) (E5:s.on L.length k) (hr:s.reads.getD k []=[]):
  Calls Tryz.prog 107 #[.pointer (some ⟨bz,0,none⟩),.int .i64 (k:Int)] W (Got (ImG w0 g t L ag0 kg0 ag1 kg1 at_ kt aL kL bz bv bk bs br f) fp W (BA g t L G L[k] k s)):=by
 obtain⟨w,hw⟩:=nm (w0);subst hw;have HE:=Kz E;have FX:=Kz A7;have o5:=Kz BM;have F4:=Kz EB;have Mq:=Kz oH;have HS:=Kz hS;have HC:=Kz hS.1;have MG:=Kz E5;have MH:=Kz hr;obtain⟨fl,hl⟩:=E.hL;obtain⟨a9,k9,o9,MI,MJ,F5⟩:=hl.open;injection o9 with o9 _ MK;subst o9;subst MK;obtain⟨bL,oL,rfl,NW⟩:=F5 k hk;obtain⟨i0,i1,F6,F8⟩:=SlR.iX (show SlR fl w (.slice (some ⟨bL,oL,none⟩) L.length kL) L from hl) hk;obtain⟨X,hX⟩:=nm (L[k]);rw[←hX] at i0 i1 F6 F8 ⊢;obtain⟨U,x1⟩:=X;have j0:=HC.o.gr.keep i0;have j1:=HC.o.gr.keep i1;obtain⟨y0,y1,y2,y3,y9⟩:=HC.o.fixed;have n0:(0:Int)≤(k:Int):=by omega
 have n1:(k:Int)<(L.length:Int):=by omega
 have Ha:=Kz hk;clear E A7 BM EB oH hS E5 hr hl MI MJ F5 i0 i1 F6 F8 hX;simp only at j0 j1;obtain⟨K,q8⟩:=nm (dQ t U);obtain⟨SY,q9⟩:=nm (zB g t K);obtain⟨ML,bq⟩:=nm (BA g t L G (U,x1) k s);have Mr:=Kz (show ML=(List.range t.length).foldl (jQ g t L G (U,x1) SY k) (some (0,s)) by rw[bq,q9,q8];rfl);rw[←bq];have MM:=Kz q8;have MN:=Kz q9;clear q8 q9 bq;go_in;go_wp2_with fail;obtain⟨B,hB⟩:=nm (W.alloc (.cells #[.int .i64 U,.string x1] 45));rw[←hB];have gB:Gr W B:=by rw[hB];exact gd
 have VX:=Kz (show az B W.heap.size 45 [.int .i64 U,.string x1] by rw[hB];exact az.new rfl);have MO:=Kz gB;have He:W.heap.size∉fp:=fun hm=>Nat.lt_irrefl _ (HC.o.lt _ hm)
 have HV:=Kz He;have u0:=gB.keep y0;have u1:=gB.keep y1;have u2:=gB.keep y2;have zu:=blk u0;have HY:B.cell? ⟨W.heap.size,0,none⟩=some (.int .i64 U):=VX.o.c 0;have zx:=blk HY;have MP:=Kz (HS.o.grow gB);have sO:=Kz (HC.o.grow gB)
 have MQ:Ky (∀x:Ext,Qz 141 #[.agg #[.slice at_ t.length kt],.int .i64 U] (B.ext x) (.int .i64 K)):=Kz (fun x=>by
  rw[MM.o];obtain⟨ft,ht⟩:=HE.o.ht;exact ji t U _ (Rd.gr ht (sO.o.gr.trans gd)))
 have MR:Ky (∀x:Ext,Qz 87 #[.agg #[.slice ag0 g.1.length kg0,.slice ag1 g.2.length kg1],.agg #[.slice at_ t.length kt],.int .i64 K] (B.ext x) (.string SY)):=Kz (fun x=>by
  rw[MN.o];obtain⟨fg,hg⟩:=HE.o.hg;obtain⟨ft,ht⟩:=HE.o.ht;exact jM g t K _ (Rd.gr hg (sO.o.gr.trans gd)) (Rd.gr ht (sO.o.gr.trans gd)))
 clear hB gB He y0 y1 y2 y3 y9 j0 j1;refine wg ?_
 iterate 17 (go_big_quiet_step (first|(go_at_call 141;exact aG (MQ.o _))|(go_at_call 87;exact aG (MR.o _))))
 refine wpQuiet_nil ?_
 intro _ uf
 obtain⟨nx,uo⟩:=uf;subst uo;clear u0 u1 HY zx;have bB:=Kz (VX.o.gr (gd:Gr B (B.ext nx)));have HZ:=Kz (MP.o.grow (gd:Gr B (B.ext nx)));have H5:=Kz (MO.o.trans (gd:Gr B (B.ext nx)));go_wp2_with fail;obtain⟨W2,IV⟩:=nm (B.ext nx);rw[←IV] at bB HZ H5 ⊢;clear IV u2 zu
 go_loopw [43,6] (fun s8 s7 wr=>∃(i:Nat) (u:Int) (r:Res),i≤t.length∧Ky (r=(List.range i).foldl (jQ g t L G (U,x1) SY k) (some (0,s)))∧Ky (Acc (ImG w g t L ag0 kg0 ag1 kg1 at_ kt (some ⟨bL,oL,none⟩) kL bz bv bk bs br f) fp W2 r u wr)∧s8=.int .i64 i∧s7=.int .i64 u) (fun s8 _ _=>t.length - (intOf s8).toNat)
 case atStart=>exact⟨0,0,some (0,s),by omega,Kz rfl,Kz ⟨fp,by decide,HZ.o,fun p h=>(by obtain rfl:=Option.some.inj h;rfl),MvW.refl _ _⟩,rfl,rfl⟩
 case round=>
  obtain⟨i,u,r,hi,HR,uq,rfl,rfl⟩:=hrel
  rename World=>W3
  obtain⟨f3,KX,uz,cB,cK⟩:=uq.o;obtain⟨s3,NL,ve,-⟩:=uz.core;have ak:=Kz ve;have K3:=Kz uz;have K4:=Kz KX;have K6:=Kz cB;have La:=Kz cK;have vB:W.heap.size∉f3:=cK.o bB.o.lt HV.o;have vD:=Kz vB;have Ms:=Kz (cK.row bB.o HV.o);obtain⟨y0,y1,y2,y3,y9⟩:=ve.fixed;clear KX uz cB cK ve vB uq
  by_cases ae:i<t.length
  ·obtain⟨ft,vt,Li,Lj⟩:=HE.o.ht
   obtain rfl:Value.slice at_ t.length kt=vt:=by simpa using Li
   obtain⟨NY,NZ,bH,-,-,Mt⟩:=Lj.open;injection bH with bH _ Mv;subst bH;subst Mv;have Lm:=ak.o.gr;obtain⟨b,off,rfl,N7⟩:=Mt i ae;obtain⟨p0,p1,p2,p3,p4,p5,Ls,Lv,N8,N9,MS,Oa,MU,vF,MV,cB,MW,MX,NM,NN,MZ,M0,M3,M4,Lx,M5,M6⟩:=KZ Lj ae Lm;have au:=Kz (show nT g t i=((dJ g.2 p4).getD fH).2.2.2.2.2 by unfold nT;rw[gG ae,←MS.o]);have i0:(0:Int)≤(i:Int):=by omega
   have i1:(i:Int)<(t.length:Int):=by omega
   have Ob:=zI1 i (by omega);obtain⟨Y,hY⟩:=nm ((dJ g.2 p4).getD fH);have M7:=Kz hY;rw[←hY] at au;have k0:=fun(w':World) (h:Gr W3 w')=>(⟨h.keep y0,h.keep y1,h.keep Lx⟩:_∧_∧_)
   clear hY MU vF MV cB MW MX Lm Li k0;go_wp2_with fail;obtain⟨W4,cO⟩:=nm (W3.alloc (.cells #[.int .i64 p0,.int .i64 p1,.int .i64 p2,.int .i64 p3,.string p4,.slice Ls p5.length Lv] 130));rw[←cO];have g4:Gr W3 W4:=by rw[cO];exact gd
   have M8:=Kz (show az W4 W3.heap.size 130 [.int .i64 p0,.int .i64 p1,.int .i64 p2,.int .i64 p3,.string p4,.slice Ls p5.length Lv] by rw[cO];exact az.new rfl);have bg:=Kz g4;have m0:=g4.keep y0;have m1:=g4.keep y1;have m4:W4.cell? ⟨W3.heap.size,4,none⟩=some (.string p4):=M8.o.c 4;have k0:=fun(w':World) (h:Gr W4 w')=>(⟨h.keep m0,h.keep m1,h.keep m4⟩:_∧_∧_)
   clear cO g4
   go_cut [10] (fun s9 wr=>Js w W4 Y s9 wr)
   case first=>
    obtain⟨fg,hg⟩:=HE.o.hg;have LA:=Kz hg;clear hg
    go_region_held3 (fun w'=>Gr W4 w') (exact ga)
     (first|(go_at_call 118;refine(iL g p4 _ (Rd.gr LA.o (ak.o.gr.trans (tg bg)))).mono ?_;rintro e w' ⟨es,fq,rfl,hr,M9,z9,rfl⟩;obtain⟨s0,s1,s2,s3,s4,s5,Na,Nb,Nc,Nf,Ng,Nh,Ni,Nj,LB,vG,rfl,-,LC,dB,LD,NP,NQ,LF,NR,NS,dS,NT,NU⟩:=KV (x:=(dJ g.2 p4).getD fH) hr;have Nk:=Kz vG;have dV:=Lt vG hr;clear hr vG;obtain⟨b2,vL⟩:∃b:Bool,b=(dJ g.2 p4).isSome:=⟨_,rfl⟩;rw[←vL];have Oc:=Kz vL;clear vL))
    all_goals
     go_wp2_with fail;go_meet;have Nl:Y=(s0,s1,s2,s3,s4,s5):=M7.o.trans Nk.o.symm;subst Nl;have fe:∀c∈fq,c<w.heap.size∨_≤c:=fun c hc=>(M9 c hc).imp (Rd.lt LA.o c) id
     have Od:=(ak.o.gr.trans bg.o).size;refine⟨_,[.string s0,.string s1,.slice Na s2.length Nb,.bool s3,.slice Nf s4.length Ng,.slice Ni s5.length Nj],fq,rfl,gd,fun j u hj=>?_,?_,by first|omega|(simp;done)|(simp;omega),fun c hc=>(fe c hc).imp id (fun h=>by simp at h;omega)⟩
     ·match j,hj with
      |0,hj=>obtain rfl:=Option.some.inj hj;exact kd
      |1,hj=>obtain rfl:=Option.some.inj hj;exact kd
      |2,hj=>obtain rfl:=Option.some.inj hj;exact kd
      |3,hj=>obtain rfl:=Option.some.inj hj;exact kd
      |4,hj=>obtain rfl:=Option.some.inj hj;exact kd
      |5,hj=>obtain rfl:=Option.some.inj hj;exact kd
     ·first
       |(refine Rd.gr dV.o ?_;(repeat(first|exact Gr.refl _|apply Gr.ext|apply Gr.alloc|apply Gr.drew));done)
       |((with_reducible refine Rd.mono (dO ?_) dV.o);exact fun c hc e=>by subst e;have:=fe _ hc;simp at this;omega)
       |((with_reducible refine Rd.mono (dM ?_) dV.o);exact fun c hc e=>by subst e;have:=fe _ hc;simp at this;omega)
       |((with_reducible refine Rd.mono (iT ?_) dV.o);exact fun c hc e=>by subst e;have:=fe _ hc;simp at this;omega)
   case rest=>
    obtain⟨b9,Nn,Np,rfl,g9,LG,LH,vO,fu⟩:=hcut
    rename World=>W5
    obtain⟨s0,s1,s2,Nq,s4,s5⟩:=Y;obtain⟨Oe,Nc,Og,Nh,Oh,LB,LJ,vR,LC,dB,LD,LF,dS⟩:=aM (cs:=Nn.toArray) s0 s1 s2 Nq s4 s5 (by simpa using LH);obtain rfl:=toL LJ;obtain⟨a5,k5,rfl,-,-,-⟩:=dS.open;have c5:=LG 5 _ rfl;have Nr:=Kz dS;replace vO:W3.heap.size≤b9:=Nat.le_trans bg.o.size vO;replace fu:∀c∈Np,c<w.heap.size∨W3.heap.size≤c:=fun c hc=>(fu c hc).imp id (Nat.le_trans bg.o.size)
    replace g9:=bg.o.trans g9;have Ns:=Kz (K3.o.grow g9)
    have vX:b9∉f3:=fun hm=>by
     have h1:=ak.o.lt b9 hm;omega
    have Nt:=Kz vX;have Mw:=Kz c5;have bR:=Kz (show Ap LB f3 from Jr (fun c hc=>fu c (by rw[vR];simp[hc])) ak.o.ge ak.o.lt);have wF:=Kz (Ms.o.gr g9);have Nu:=Kz (La.o.gr g9);have gD:=(o5.o i).1;have wL:=Kz (o5.o i).2;rw[au.o] at gD wL;have w9:=Kz (Mq.o i ae);rw[au.o] at w9;simp only at gD wL w9 au;clear k0 m0 m1 m4 y0 y1 y2 y3 y9 MZ M0 M3 M4 Lx M5 M6 LG LH LJ vR LC dB LD LF dS g9 vX fu vO;go_wp2_with fail;clear c5
    go_loopw [61,6] (fun xc s7 wr=>∃(j:Nat) (u2:Int) (r2:Res),j≤s5.length∧Ky (r2=(s5.take j).foldl (gp g t L G (U,x1) SY i k) r)∧Ky (Acc (ImG w g t L ag0 kg0 ag1 kg1 (some ⟨b,off,none⟩) kt (some ⟨bL,oL,none⟩) kL bz bv bk bs br f) f3 W5 r2 u2 wr)∧xc=.int .i64 j∧s7=.int .i64 u2) (fun xc _ _=>s5.length - (intOf xc).toNat)
    case atStart=>exact⟨0,u,r,by omega,Kz rfl,Kz ⟨f3,K4.o,Ns.o,K6.o,MvW.refl _ _⟩,rfl,rfl⟩
    case round=>
     obtain⟨j,u2,r2,hj,gF,gT,rfl,rfl⟩:=hrel
     rename World=>V
     obtain⟨f6,LK,x9,LM,yc⟩:=gT.o;obtain⟨s6,NV,LP,-⟩:=x9.core;have Nv:=Kz LP;have LQ:=Kz x9;have yu:=Kz LK;have y5:=Kz LM;have D:=Kz yc;have c5:=yc.cell Mw.o Nt.o;clear LK x9 LM yc LP gT
     by_cases gV:j<s5.length
     ·obtain⟨cb,co,e0,e1,e2,e3,e4,e5,ea,en,ec,h0,h1,h2,h3,h4,h5,ha,hn,hc,fy,fz,rfl,LU,gX,ik,LV,LW,hcell⟩:=Ic Nr.o gV
      obtain⟨C,hC⟩:=nm (s5[j]);have ay:=Kz (show(s5.take (j+1)).foldl (gp g t L G (U,x1) SY i k) r=gp g t L G (U,x1) SY i k r2 C by rw[List.take_succ_eq_append_getElem gV,List.foldl_append,←gF.o,hC];rfl);have y7:C∈s5:=by rw[hC];exact List.getElem_mem gV
      rw[←hC] at gX ik hcell;have y8:=Kz (w9.o C y7);have za:=Kz (wL.o C y7);have iw:=Kz (Dh FX.o o5.o MG.o MH.o (show i<16 by omega) au.o gV HR.o gF.o);obtain⟨n0,n1,C2,C3⟩:=C;simp only at gX ik hcell y8 za;have I:cb∉f3:=bR.o _ LU;have z0:=D.o.cell (hcell 0 _ rfl) I;have z1:=D.o.cell (hcell 1 _ rfl) I;have z2:=D.o.cell (hcell 2 _ rfl) I;have z3:=D.o.cell (hcell 3 _ rfl) I;have z4:=D.o.cell (hcell 4 _ rfl) I;have z5:=D.o.cell (hcell 5 _ rfl) I;have z6:=D.o.cell (hcell 6 _ rfl) I;have z7:=D.o.cell (hcell 7 _ rfl) I;have z8:=D.o.cell (hcell 8 _ rfl) I;have z9:=D.o.cell (hcell 9 _ rfl) I;have Nw:=D.o.cell (hcell 10 _ rfl) I;have Ny:=D.o.cell (hcell 11 _ rfl) I;have z12:=D.o.cell (hcell 12 _ rfl) I;have Nz:=D.o.cell (hcell 13 _ rfl) I;have NA:=D.o.cell (hcell 14 _ rfl) I;have NB:=D.o.cell (hcell 15 _ rfl) I;rw[Nat.add_zero] at z0;have LX:=Kz gX;have LY:=Kz ik;have LZ:=Kz (bR.o.sub LV);have L6:=Kz (bR.o.sub LW);have j0:(0:Int)≤(j:Int):=by omega
      have j1:(j:Int)<(s5.length:Int):=by omega
      have Oi:=zI1 j (by omega);clear hC y7 gX ik LV LW hcell LU I;go_wp2_with fail;obtain⟨O,kr⟩:=nm (V.alloc (.cells #[.string n0,.string n1,.int .i64 e0,.int .i64 e1,.int .i64 e2,.int .i64 e3,.string e4,.string e5,.slice ea en ec,.int .i64 h0,.int .i64 h1,.int .i64 h2,.int .i64 h3,.string h4,.string h5,.slice ha hn hc] 186));rw[←kr];have g7:Gr V O:=by rw[kr];exact gd
      have Z:=Kz (show az O V.heap.size 186 [.string n0,.string n1,.int .i64 e0,.int .i64 e1,.int .i64 e2,.int .i64 e3,.string e4,.string e5,.slice ea en ec,.int .i64 h0,.int .i64 h1,.int .i64 h2,.int .i64 h3,.string h4,.string h5,.slice ha hn hc] by rw[kr];exact az.new rfl);have L8:=Kz g7;have L9:V.heap.size∉f6:=fun hm=>Nat.lt_irrefl _ (Nv.o.lt _ hm)
      have J:=Kz L9;have ze:=D.o.o wF.o.lt vD.o;have zf:=Kz ze;have Mx:=Kz ((D.o.row wF.o vD.o).gr g7);obtain⟨b0,b1⟩:=Z.o.c2;obtain⟨v0,v1⟩:=Mx.o.c2;have zb:=blk b0;have zv:=blk v1;have zg:=Kz (LQ.o.grow g7);have Ma:=Kz (D.o.gr g7);clear kr g7 L9 ze z0 z1 z2 z3 z4 z5 z6 z7 z8 z9 Nw Ny z12 Nz NA NB c5
      by_cases hq:n0=SY∧n1=x1
      ·obtain⟨rfl,rfl⟩:=hq
       have zl:=Kz (fun v hv=>Gn (g:=g) (t:=t) (L:=L) (G:=G) (x:=(U,n1)) (sym:=n0) (node:=i) (by_:=k) (c:=((n0,n1,C2,C3):aD d)) (o:=r2) ⟨rfl,rfl⟩ (u:=u2) (v:=v) y5.o hv);have NC:=fun(w':World) (h:Wr f6 O w')=>(⟨h.aO b0 J.o,h.aO b1 J.o,h.aO v0 zf.o,h.aO v1 zf.o,h.aO (show O.cell? ⟨V.heap.size,2,none⟩=some (.int .i64 e0) from Z.o.c 2) J.o,h.aO (show O.cell? ⟨V.heap.size,3,none⟩=some (.int .i64 e1) from Z.o.c 3) J.o,h.aO (show O.cell? ⟨V.heap.size,4,none⟩=some (.int .i64 e2) from Z.o.c 4) J.o,h.aO (show O.cell? ⟨V.heap.size,5,none⟩=some (.int .i64 e3) from Z.o.c 5) J.o,h.aO (show O.cell? ⟨V.heap.size,6,none⟩=some (.string e4) from Z.o.c 6) J.o,h.aO (show O.cell? ⟨V.heap.size,7,none⟩=some (.string e5) from Z.o.c 7) J.o,h.aO (show O.cell? ⟨V.heap.size,8,none⟩=some (.slice ea en ec) from Z.o.c 8) J.o⟩:_∧_∧_∧_∧_∧_∧_∧_∧_∧_∧_)
       have Mc:=Kz (show∀s',r2.map (·.2)=some s'→s'.on L.length k∧(s'.reads.getD k []).length+cZ (d+1) C2≤2000 by
        intro s' zn
        obtain⟨p,hp,rfl⟩:=Option.map_eq_some_iff.1 zn;have h1:=iw.o p hp;have h2:=za.o.1;exact⟨h1.1,by omega⟩)
       go_wp2_with fail;refine wp_region_held_drew (S:=(fun w'=>Wr f6 O w')) (by kernel_rfl) ((gd:Gr O O.drew).eF _) (fun aZ=>?_);refine aK 0 65 ?_;refine aK 2 67 ?_;refine aK 1 66 ?_;refine aK 3 68 ?_;refine aK 4 69 ?_;refine aK 5 70 ?_;refine aK 7 72 ?_;refine aK 6 71 ?_;refine aK 8 73 ?_;refine aK 9 74 ?_;refine aK 10 75 ?_;refine aK 11 76 ?_;refine aK 12 77 ?_;refine aK 13 78 ?_;refine aK 14 79 ?_;refine aK 16 81 ?_;refine aK 19 84 ?_;refine aK 17 82 ?_;refine aK 20 85 ?_;refine gy [15] ?_;refine AllReadyH.cons rfl (fun K hK=>?_) AllReadyH.nil;go_simp
       go_at_call 109
       refine(EC HE.o ae f6 (r2.map (·.2)) _ (by_:=k) (zg.o.grow gd)).mono ?_;rintro e X7 ⟨pe,pn,pb,ai,li,ki,rfl,hR,gx⟩;have ND:=Kz hR;have ku:=Kz (Gr.trans gd gx:Gr O X7);clear hR gx;refine hK.out _ _ (ku.o.eF _) (fun zo=>?_);clear hK K
       try simp only[Act.put,uq1,uq2,uq3]
       refine gy [18] ?_
       refine AllReadyH.cons rfl (fun K hK=>?_) AllReadyH.nil
       go_simp
       go_at_call 110
       refine(F4.o i k _ ae ⟨ae,rfl⟩ Ha.o C2 fy #[.int .i64 e0,.int .i64 e1,.int .i64 e2,.int .i64 e3,.string e4,.string e5,.slice ea en ec] f6 (r2.map (·.2)) _ pe pn pb ai li ki (Rd.gr (D.o.rd LX.o LZ.o) (L8.o.trans ku.o)) (D.o.apart LZ.o (Rd.lt LX.o)) (zg.o.grow ku.o) ND.o y8.o.1 Mc.o).mono ?_;rintro e9 W8 ⟨v,f8,rfl,NF,Md,Me,Mf⟩;have ky:=Kz Md;have Mg:=Kz Me;have T:=Kz ((MvW.dm ku.o).trans Mf:MvW f6 O f8 W8);clear Md Me Mf NF;refine hK.out _ _ T.o.wr (fun zq=>?_);clear hK K
       try simp only[Act.put,uq1,uq2,uq3]
       refine aK 21 86 ?_
       refine aK 22 87 ?_
       refine wpAnyH_done (by kernel_rfl) ?_ _
       skip
       have Mh:=Kz (show∀s',(((r2.map (·.2)).bind fun s=>eX g t L G i (k:Int) (d+1) C2 s).map (·.2))=some s'→s'.on L.length k∧(s'.reads.getD k []).length+cZ (d+1) C3≤2000 by
        intro s' zn
        obtain⟨p,hp,rfl⟩:=Option.map_eq_some_iff.1 zn;obtain⟨s1,dB,vF⟩:=Option.bind_eq_some_iff.1 hp;obtain⟨q,hq,rfl⟩:=Option.map_eq_some_iff.1 dB;have h1:=iw.o q hq;have h2:=lG FX.o h1.1 vF;have h3:=h2.room h1.1.1;have h4:=za.o;simp only[Int.toNat_natCast] at h3;exact⟨h2.on h1.1,by omega⟩)
       have bX:=Kz (zl.o v Mg.o);obtain⟨R1,Mi⟩:=nm (((r2.map (·.2)).bind fun s=>eX g t L G i (k:Int) (d+1) C2 s));rw[←Mi] at ky Mg bX Mh;have zy:=Kz (D.o.apart L6.o (Rd.lt LY.o));have zH:=Kz (Rd.gr (D.o.rd LY.o L6.o) L8.o);have MB:=Kz (T.o.apart zy.o (Rd.lt zH.o));have MC:=Kz (T.o.rd zH.o zy.o);have Mj:=Kz (Ma.o.trans T.o);have d9:=T.o.cell (show O.cell? ⟨V.heap.size,9,none⟩=some (.int .i64 h0) from Z.o.c 9) J.o;have d10:=T.o.cell (show O.cell? ⟨V.heap.size,10,none⟩=some (.int .i64 h1) from Z.o.c 10) J.o;have d11:=T.o.cell (show O.cell? ⟨V.heap.size,11,none⟩=some (.int .i64 h2) from Z.o.c 11) J.o;have d12:=T.o.cell (show O.cell? ⟨V.heap.size,12,none⟩=some (.int .i64 h3) from Z.o.c 12) J.o;have d13:=T.o.cell (show O.cell? ⟨V.heap.size,13,none⟩=some (.string h4) from Z.o.c 13) J.o;have d14:=T.o.cell (show O.cell? ⟨V.heap.size,14,none⟩=some (.string h5) from Z.o.c 14) J.o;have d15:=T.o.cell (show O.cell? ⟨V.heap.size,15,none⟩=some (.slice ha hn hc) from Z.o.c 15) J.o;clear NC b0 b1 v0 v1 zb zv zl Mc aZ zo zq Mi
       by_cases ax:v=U
       ·have zL:=Kz (ay.o.trans (bX.o.trans (if_pos ax)))
        have ev:(v==U)=true:=by simpa using ax
        clear ax;go_simp;go_wp2_with fail;have ah:=Kz (T.o.o Z.o.lt J.o);have NG:=fun(w':World) (h:Wr f8 W8 w')=>(⟨h.aO d9 ah.o,h.aO d10 ah.o,h.aO d11 ah.o,h.aO d12 ah.o,h.aO d13 ah.o,h.aO d14 ah.o,h.aO d15 ah.o⟩:_∧_∧_∧_∧_∧_∧_)
        refine wp_region_held_drew (S:=(fun w'=>Wr f8 W8 w')) (by kernel_rfl) ((gd:Gr W8 W8.drew).eF _) (fun aZ=>?_)
        refine aK 0 88 ?_
        refine aK 1 89 ?_
        refine aK 2 90 ?_
        refine aK 3 91 ?_
        refine aK 5 93 ?_
        refine aK 6 94 ?_
        refine gy [4] ?_
        refine AllReadyH.cons rfl (fun K hK=>?_) AllReadyH.nil
        go_simp
        go_at_call 109
        refine(EC HE.o ae f8 (R1.map (·.2)) _ (by_:=k) (ky.o.grow gd)).mono ?_;rintro e X8 ⟨qe,qn,qb,aj,lj,kj,rfl,hR,gx⟩;have ME:=Kz hR;have lq:=Kz (Gr.trans gd gx:Gr W8 X8);clear hR gx;refine hK.out _ _ (lq.o.eF _) (fun zo=>?_);clear hK K
        try simp only[Act.put,uq1,uq2,uq3]
        refine gy [7] ?_
        refine AllReadyH.cons rfl (fun K hK=>?_) AllReadyH.nil
        go_simp
        go_at_call 110
        refine(F4.o i k _ ae ⟨ae,rfl⟩ Ha.o C3 fz #[.int .i64 h0,.int .i64 h1,.int .i64 h2,.int .i64 h3,.string h4,.string h5,.slice ha hn hc] f8 (R1.map (·.2)) _ qe qn qb aj lj kj (Rd.gr MC.o lq.o) MB.o (ky.o.grow lq.o) ME.o y8.o.2 Mh.o).mono ?_;rintro e9 W9 ⟨v3,f9,rfl,Oj,Mk,Ml,Mm⟩;have NH:=Kz Mk;have NI:=Kz Ml;have Mo:=Kz ((MvW.dm lq.o).trans Mm:MvW f8 W8 f9 W9);clear Mk Ml Mm;refine hK.out _ _ Mo.o.wr (fun zq=>?_);clear hK K
        try simp only[Act.put,uq1,uq2,uq3]
        refine aK 8 96 ?_
        refine aK 9 6 ?_
        refine wpAnyH_done (by kernel_rfl) ?_ _
        skip;clear aZ NG d9 d10 d11 d12 d13 d14 d15 zo zq;go_wp2_with fail;exact⟨⟨j+1,bits .or .i64 u2 v3,_,by omega,Kz zL.o.symm,Kz ⟨f9,wf_bits _ _ _ _,by rw[Cy];exact NH.o.grow gd,or_val NI.o,Mj.o.trans (Mo.o.gr gd)⟩,by go_num,rfl⟩,by simp[intOf];omega⟩
       ·have zL:=Kz (ay.o.trans (bX.o.trans (if_neg ax)))
        have ev:(v==U)=false:=by simpa using ax
        clear ax d9 d10 d11 d12 d13 d14 d15;go_simp;go_wp2_with fail;exact⟨⟨j+1,u2,_,by omega,Kz zL.o.symm,Kz ⟨f8,yu.o,by rw[wI];exact ky.o.grow gd,Ck,Mj.o.gr gd⟩,by go_num,rfl⟩,by simp[intOf];omega⟩
      ·have MF:=Kz (EN (g:=g) (t:=t) (L:=L) (G:=G) (x:=(U,x1)) (sym:=SY) (node:=i) (by_:=k) (c:=((n0,n1,C2,C3):aD d)) (o:=r2) hq)
       have zO:((n0.toList==SY.toList)=false)∨((n0.toList==SY.toList)=true∧(n1.toList==x1.toList)=false):=
        (Classical.em (n0=SY)).elim (fun a=>.inr ⟨by simp[a],by simpa using fun e=>hq ⟨a,str_inj e⟩⟩) (fun a=>.inl (by simpa using fun e=>a (str_inj e)))
       clear hq;rcases zO with e|⟨e,e'⟩
       all_goals
        refine wg ?_
        iterate 23 (go_big_quiet_step (fail))
        refine wpQuiet_nil ?_
        intro _ uf
        obtain⟨nx,uo⟩:=uf;subst uo;go_wp2_with fail;exact⟨⟨j+1,u2,r2,by omega,Kz (by rw[ay.o,MF.o]),Kz ⟨f6,yu.o,zg.o.grow gd,y5.o,Ma.o.gr gd⟩,by go_num,rfl⟩,by simp[intOf];omega⟩
     ·obtain rfl:j=s5.length:=by omega
      rw[List.take_length] at gF
      have NJ:=Kz (show r2=(List.range (i+1)).foldl (jQ g t L G (U,x1) SY k) (some (0,s)) by
       rw[gF.o,List.range_succ,List.foldl_append,←HR.o]
       show _=(nT g t i).foldl _ r
       rw[au.o])
      go_wp2_with fail;refine⟨⟨i+1,u2,r2,by omega,NJ,Kz ⟨f6,yu.o,LQ.o.grow gd,y5.o,Nu.o.trans (D.o.gr gd)⟩,by go_num,rfl⟩,by simp[intOf];omega⟩
  ·obtain rfl:i=t.length:=by omega
   go_wp2_with fail;go_ret;rw[Mr.o,←HR.o];refine Acc.got ⟨f3,K4.o,K3.o.grow gd,K6.o,(MvW.dm H5.o).trans (La.o.gr gd)⟩
end
end Go.Proofs.YtleafadpfeibfaaGreat
namespace Go.Proofs.YtleafadpfeibfaaGreat
open Go.RowKit
variable{d:Nat}
section
variable{w0:World}{g:af d}{t:List aT}{L:List av}{ag0:Option Addr}{kg0:Nat}{ag1:Option Addr}{kg1:Nat}{at_:Option Addr}{kt:Nat}{aL:Option Addr}{kL:Nat}{bz bv bk bs br:Nat}
theorem Dy(E:EnvD w0 g t L ag0 kg0 ag1 kg1 at_ kt aL kL):
  ∀f,FT w0 (.slice ag0 g.1.length kg0) (.slice ag1 g.2.length kg1) (.slice at_ t.length kt) (.slice aL L.length kL) L L.length bz bv bk bs br f (yH g t L f):=by
 have hn:L.length≤1048576:=by
  rw[E.list];have:=jX E.good E.tree;omega
 have q:=G5 E.good E.tree;intro f
 induction f with
 |zero=>exact ER E.hL hn (fun s k p _ h=>by cases h) (fun e h=>by omega)
 |succ f D=>
  have B:∀node k m,node<t.length→(∃h:node<t.length,t[node].2.2.2.2.2.length=m)→k<L.length→EvI w0 g t L ag0 kg0 ag1 kg1 at_ kt aL kL bz bv bk bs br f (yH g t L f) node k m (d+1):=by
   intro node k m hn hm hk
   obtain⟨_,hm⟩:=hm;exact Fb E D (pG q f) hk hn hm (d+1)
  refine ER E.hL hn (fun s k p hs h=>?_) (fun e he=>?_)
  ·obtain⟨m,hm⟩:=wZ (pG q f) q s k p hs h
   exact hm.still hs.1
  ·obtain rfl:f=e:=by omega
   exact KR E B (IU E (pG q f) q B (fun node h c hc=>((Ew E.good E.tree h).2 c hc).1) (jv.1 E.tree).1.2)
end
end Go.Proofs.YtleafadpfeibfaaGreat
