/- Contracts and laws towards ReadsOf, part 42 of 54. No condition. -/
import Derived.Test.YtleafadpfeibfaaGreatRx37
set_option maxHeartbeats 32000000
set_option maxRecDepth 10000
set_option linter.unusedVariables false
set_option linter.unusedSimpArgs false
namespace Go.Proofs.YtleafadpfeibfaaGreat
open Go.RowKit
open _root_.Option (bind_some map_some)
variable{d:Nat}
variable{W:World}
theorem Ic{fx:List Nat}{V:Option Addr}{kq:Nat}{xs:List (aD d)}(h:SlR fx W (.slice V xs.length kq) xs){k:Nat}(hk:k<xs.length):
  ∃(b off:Nat) (q B D I:Int) (K O:ByteArray) (X:Option Addr) (Y Z:Nat) (h0 h1 h2 T:Int) (h4 J:ByteArray) (ha:Option Addr) (hn hc:Nat) (U fz:List Nat),V=some ⟨b,off,none⟩∧b∈fx∧Rd.rd (α:=aA d) U W [.int .i64 q,.int .i64 B,.int .i64 D,.int .i64 I,.string K,.string O,.slice X Y Z] xs[k].2.2.1∧Rd.rd (α:=aA d) fz W [.int .i64 h0,.int .i64 h1,.int .i64 h2,.int .i64 T,.string h4,.string J,.slice ha hn hc] xs[k].2.2.2∧(∀c∈U,c∈fx)∧(∀c∈fz,c∈fx)∧
   ∀j v,[.string xs[k].1,.string xs[k].2.1,.int .i64 q,.int .i64 B,.int .i64 D,.int .i64 I,.string K,.string O,.slice X Y Z,.int .i64 h0,.int .i64 h1,.int .i64 h2,.int .i64 T,.string h4,.string J,.slice ha hn hc][j]?=some v→W.cell? ⟨b,off+k*16+j,none⟩=some v:=by
 obtain⟨a,c,hv,-,-,T⟩:=h.open;injection hv with B D I;obtain⟨b,off,rfl,hb⟩:=T k hk;subst B;obtain⟨cs,U,hc,hr,hs⟩:=h.at hk;have hm:=SlR.vY h (fun q=>by rw[q] at hk;simp at hk);obtain⟨y,hy⟩:=nm (xs[k]);rw[←hy] at hr ⊢;obtain⟨p0,p1,pe,pf⟩:=y;obtain⟨c1,c2,f1,f2,rfl,rfl,⟨rfl,rfl,-⟩,c3,c4,f3,f4,rfl,rfl,⟨rfl,rfl,-⟩,c5,c6,f5,f6,rfl,rfl,J,h6⟩:=hr;obtain⟨q,B,D,I,K,O,e6⟩:=(pe:aA d);obtain⟨g0,g1,g2,g3,g4,g5,g6⟩:=(pf:aA d);obtain⟨v1,q1,ae,-,-,-,-,-,-,-,ah⟩:=aF (cs:=c5.toArray) q B D I K O e6 (by simpa using J);obtain⟨v2,q2,ai,-,-,-,-,-,-,-,aj⟩:=aF (cs:=c6.toArray) g0 g1 g2 g3 g4 g5 g6 (by simpa using h6);obtain⟨a1,k1,rfl,-⟩:=ah.open;obtain⟨a2,k2,rfl,-⟩:=aj.open;obtain rfl:=toL ae;obtain rfl:=toL ai;exact⟨b,off,_,_,_,_,_,_,_,_,_,_,_,_,_,_,_,_,_,_,f5,f6,rfl,hm,J,h6,fun c hc=>hs c (by simp[hc]),fun c hc=>hs c (by simp[hc]),hc⟩
def Js{α:Type}[Rd α](w0 W:World)(y:α)(s:Value)(wr:World):Prop:=
 ∃b cs fr,s=.pointer (some ⟨b,0,none⟩)∧Gr W wr∧(∀j v,cs[j]?=some v→wr.cell? ⟨b,j,none⟩=some v)∧Rd.rd fr wr cs y∧W.heap.size≤b∧∀c∈fr,c<w0.heap.size∨W.heap.size≤c
def Acc(S:List Nat→Option Eng→World→Prop)(fp:List Nat)(W:World)(r:Res)(u:Int)(w':World):Prop:=
 ∃fq,(Lit.int .i64 u).wf=true∧S fq (r.map (·.2)) w'∧(∀p,r=some p→p.1=u)∧MvW fp W fq w'
theorem Acc.got{S:List Nat→Option Eng→World→Prop}{fp:List Nat}{w':World}{r:Res}{u:Int}(h:Acc S fp W r u w'):Got S fp W r (.returned (.int .i64 u)) w':=by
 obtain⟨fq,h1,q,B,D⟩:=h;exact⟨u,fq,rfl,h1,q,B,D⟩
theorem Jr{w0:World}{fr fq:List Nat}(h:∀c∈fr,c<w0.heap.size∨W.heap.size≤c)(h1:∀b∈fq,w0.heap.size≤b)(q:∀b∈fq,b<W.heap.size):Ap fr fq:=fun c hc hm=>by
 have:=h1 c hm;have:=q c hm;rcases h c hc with h|h<;>omega
theorem EN{g:af d}{t:List aT}{L:List av}{G:Eng→Int→Int→Res}{x:av}{sym:ByteArray}{node:Nat}{by_:Int}{c:aD d}{o:Res}(h:¬(c.1=sym∧c.2.1=x.2)):gp g t L G x sym node by_ o c=o:=by
 unfold gp;rw[if_neg h]
theorem Gn{g:af d}{t:List aT}{L:List av}{G:Eng→Int→Int→Res}{x:av}{sym:ByteArray}{node:Nat}{by_:Int}{c:aD d}{o:Res}(h:c.1=sym∧c.2.1=x.2){u v:Int}(hu:∀p,o=some p→p.1=u)
  (hv:∀p,(o.map (·.2)).bind (fun s=>eX g t L G node by_ (d+1) c.2.2.1 s)=some p→p.1=v):
  gp g t L G x sym node by_ o c=(if v=x.1 then(((o.map (·.2)).bind (fun s=>eX g t L G node by_ (d+1) c.2.2.1 s)).map (·.2)).bind (fun s=>(eX g t L G node by_ (d+1) c.2.2.2 s).bind fun r=>some (bits .or .i64 u r.1,r.2))
   else((o.map (·.2)).bind (fun s=>eX g t L G node by_ (d+1) c.2.2.1 s)).bind fun q=>some (u,q.2)):=by
 unfold gp;rw[if_pos h]
 cases o with
 |none=>simp
 |some p=>
  obtain rfl:=hu p rfl;simp only[bind_some,map_some] at hv ⊢
  cases B:eX g t L G node by_ (d+1) c.2.2.1 p.2 with
  |none=>simp
  |some q=>
   obtain rfl:=hv q B;simp only[bind_some,map_some]
set_option maxRecDepth 100000 in
theorem yM{fg:List Nat}{cg:Array Value}(g:(af d)){ft:List Nat}{ct:Array Value}(t:fU)(w:World)(hg:Rd.rd fg w cg.toList g)(ht:Rd.rd ft w ct.toList t)(hl:aP g≤1048576)(gV:t.length≤1048576):
  Calls Tryz.prog 55 #[.agg cg,.agg ct] w (p8 w (bU g t)):=by
 obtain⟨i0,hi⟩:=info_parts Tryz.o6;have HZ:=Kz hi;clear hi;have I:=Kz hl;have gX:=Kz gV;clear hl gV;have HG:=Kz hg;obtain⟨g0,g1,ag0,kg0,IV,ag1,kg1,KX,rfl,rfl,-,K3,A7,BM,K4,EB,E5⟩:=yt hg;clear hg;have HT:=Kz ht;obtain⟨t0,U,V,K6,rfl,rfl,-,ik,FX,F4⟩:=K8 ht;have ve:=ik.op3;clear ht
 by_cases X:fP (g0,g1) t0=true
 ·have bq:=Kz X
  have hlen:t0.length≤16:=(jv.1 X).1.2;have bB:=Kz (fun x:Ext=>iC (g0,g1) t0 0 ((((w.alloc (.cells #[.slice ag0 g0.length kg0,.slice ag1 g1.length kg1] 39)).alloc (.cells #[.slice U t0.length V] 43)).alloc (.cells #[] 45)).ext x) (Rd.gr HG.o gd) (Rd.gr HT.o gd) I.o);have bH:=Kz (fun x:Ext=>(lS (g0,g1) t0 (zB (g0,g1) t0 0) ((((w.alloc (.cells #[.slice ag0 g0.length kg0,.slice ag1 g1.length kg1] 39)).alloc (.cells #[.slice U t0.length V] 43)).alloc (.cells #[] 45)).ext x) (Rd.gr HG.o gd) (Rd.gr HT.o gd) I.o gX.o).mono fun e w' h=>(show e=.returned (.bool true)∧_ from⟨by rw[h.1,show kY (g0,g1) t0 (zB (g0,g1) t0 0)=true from bq.o],h.2⟩));clear X;go_in;go_wp2_with fail;refine wg ?_
  repeat(go_big_quiet_step (first|(go_at_call 68;exact aG (bB.o _))|(go_at_call 67;exact aG (bH.o _))))
  refine wq fun x1=>?_
  go_wp2_with fail;generalize hB:((w.alloc (.cells #[.slice ag0 g0.length kg0,.slice ag1 g1.length kg1] 39)).alloc (.cells #[.slice U t0.length V] 43))=B;have gB:Gr w B:=gb hB;obtain⟨iw,kr⟩:=kb2 hB (w.heap.size) (.slice ag0 g0.length kg0) (.slice ag1 g1.length kg1);have ku:=kb hB (w.heap.size+1) 0 (.slice U t0.length V);have sB:B.heap.size=w.heap.size+2:=szB hB;clear hB
  go_loopw [6,5] (fun bL s5 wr=>∃(k:Nat) (fps:List (List Nat)),k≤t0.length∧Ky (fps.flatten=[])∧Gr B wr∧bE (α:=av) B 45 wr s5 fps ((t0.take k).flatMap (ll (g0,g1)))∧bL=.int .i64 k) (fun bL _ _=>t0.length - (intOf bL).toNat)
  case atStart=>exact⟨0,[],by omega,Kz rfl,gd,(bE.kF (α:=av) (w0:=B) (w:=B) 45 (Nat.le_refl _) (by omega)).gr gd,rfl⟩
  case round=>
   obtain⟨k,fps,hk,HF,hg,hown,rfl⟩:=hrel
   rename World=>W1
   have q:=Kz hg;have HO:=Kz hown;obtain⟨J,rc,D⟩:=hown.form;obtain⟨L,hL⟩:=nm ((t0.take k).flatMap (ll (g0,g1)));have La:L.length≤16777216:=by rw[hL];exact yZ I.o bq.o k
   rw[←hL] at D;have HL:=Kz hL;have y0:=iw _ hg;have y1:=kr _ hg;have y2:=ku _ hg;have vB:=blk y0;have vD:=blk y2;subst D;clear hg hown hL
   by_cases O:k<t0.length
   ·have lq:Gr w W1:=gB.trans q.o
    have vF:=Kz lq;obtain⟨b,off,rfl,ak⟩:=ve k O;obtain⟨q0,q1,q2,q3,q4,q5,Li,Lj,Lm,Ls,oH,Lv,oL,vG,vL,vO,vR,vX,F5,F6,wF,wL,xc,x9,yc,yu,Lx⟩:=KZ ik O (Gr.refl _);have y5:=Kz oL;have y7:=wF;clear wL xc x9 yc yu;clear lq oL vG vL vO vR vX;have j0:(0:Int)≤(k:Int):=by omega
    have j1:(k:Int)<(t0.length:Int):=by omega
    have hs:zB (g0,g1) t0 (k:Int)=leftOf (g0,g1) (q0,q1,q2,q3,q4,q5):=by unfold zB;rw[gG O,←oH.o]
    have HS:=Kz hs;obtain⟨Y,hY⟩:=nm ((bW g0 (leftOf (g0,g1) (q0,q1,q2,q3,q4,q5))).getD dE);have bR:=Kz hY;clear hs hY;go_wp2_with fail;obtain⟨W5,au⟩:=nm (W1);have g5:Gr W1 W5:=by rw[au];exact Gr.refl _
    have LA:W5.heap.size=W1.heap.size:=by rw[au]
    rw[←au];have k0:=fun(w':World) (h:Gr W5 w')=>h.keep (g5.keep y0)
    have k1:=fun(w':World) (h:Gr W5 w')=>h.keep (g5.keep y1)
    have k2:=fun(w':World) (h:Gr W5 w')=>h.keep (g5.keep y2)
    have o5:=Kz g5;have ae:=Kz (vF.o.trans g5);clear au g5
    go_cut [7] (fun s8 wr=>mK w W5 Y s8 wr)
    case first=>
     go_region_held3 (fun w'=>Gr W5 w') (exact ga)
      (first|(go_at_call 68;refine(iC (g0,g1) t0 (k:Int) _ (Rd.gr HG.o (ae.o.trans ga)) (Rd.gr HT.o (ae.o.trans ga)) I.o).mono ?_;rintro e w' ⟨rfl,x2,rfl⟩;rw[HS.o])|(go_at_call 85;refine(dX (g0,g1) (leftOf (g0,g1) (q0,q1,q2,q3,q4,q5)) _ (Rd.gr HG.o (ae.o.trans ga)) I.o).mono ?_;rintro e w' ⟨es,fq,rfl,hr,o9,x3,rfl⟩;obtain⟨r0,r1,y8,y9,qb,bX,rfl,za,zb,cB,F8,Ha⟩:=Lg (x:=(bW g0 (leftOf (g0,g1) (q0,q1,q2,q3,q4,q5))).getD dE) hr;have ze:=Kz bX;have LB:=Lt bX hr;clear hr bX;obtain⟨bb,ak⟩:∃b:Bool,b=(bW g0 (leftOf (g0,g1) (q0,q1,q2,q3,q4,q5))).isSome:=⟨_,rfl⟩;rw[←ak];have LC:=Kz ak;clear ak;have zf:=Kz o9;clear o9))
     all_goals
      go_wp2_with fail;go_meet;have hY:Y=(r0,r1):=bR.o.trans ze.o.symm;subst hY;have cK:∀c∈qb,c<w.heap.size∨_≤c:=fun c hc=>(zf.o c (by rw[za.o];simpa using hc)).imp (Rd.lt HG.o c) id
      have LD:=ae.o.size;refine⟨_,.slice y8 r1.length y9,qb,rfl,gd,?_,?_,?_,zb,by first|omega|(simp;done)|(simp;omega),fun c hc=>(cK c hc).imp id (fun h=>by simp at h;omega)⟩
      ·exact kd
      ·exact kd
      ·first
        |(refine cB.gr ?_;(repeat(first|exact Gr.refl _|apply Gr.ext|apply Gr.alloc|apply Gr.drew));done)
        |((with_reducible refine cB.mono (dO ?_));exact fun c hc e=>by subst e;have:=cK _ hc;simp at this;omega)
        |((with_reducible refine cB.mono (dM ?_));exact fun c hc e=>by subst e;have:=cK _ hc;simp at this;omega)
    case rest=>
     obtain⟨b8,v8,fr,rfl,cO,d0,d1,sl,-,He,ah⟩:=hcut
     rename World=>W6
     obtain⟨ay,ky,rfl,LF,LG,zg⟩:=sl.open;have z0:=blk d0;have ax:=Kz sl;have dB:=Kz cO;have LH:Y.2.length≤1048576:=by have:=I.o;rw[bR.o];exact xn (Nat.le_trans (Nat.le_add_right _ _) this) _
     have q8:∀b,(Value.slice J L.length rc).ownBlock=some b→B.heap.size≤b∧b<W1.heap.size:=HO.o.base;have q9:=Kz q8;have LJ:=cO.size
     have dS:∀c∈fr,c∉(Value.slice J L.length rc).ownBlock.toList:=fun c hc hm=>by
      have h1:=q9.o c (by simpa using hm);have:=gB.size;rcases ah c hc with h|h<;>omega
     have aj:=Kz dS;have sO:b8∉(Value.slice J L.length rc).ownBlock.toList:=fun hm=>by have:=q9.o b8 (by simpa using hm);omega
     have dV:=Kz sO;obtain⟨O0,fe⟩:=nm ((Value.slice J L.length rc).ownBlock);rw[←fe] at aj dV;have zl:=Kz fe;clear k0 k1 k2 sl cO q8 dS sO ah fe;go_wp2_with fail
     go_loopw [9,5] (fun fu s5 wr=>∃(j:Nat) (fps:List (List Nat)),j≤Y.2.length∧Ky (fps.flatten=[])∧Gr B wr∧Wr O0.toList W6 wr∧Ky (s5.ownBlock=O0∨∃n,s5.ownBlock=some n∧W6.heap.size≤n)∧bE (α:=av) B 45 wr s5 fps (L++(Y.2.take j).map (fun a=>(q0,a.1)))∧fu=.int .i64 j) (fun fu _ _=>Y.2.length - (intOf fu).toNat)
     case atStart=>exact⟨0,fps,by omega,HF,q.o.trans (o5.o.trans dB.o),Wr.refl _ _,Kz (.inl zl.o.symm),by simpa[HL.o] using HO.o.gr (o5.o.trans dB.o),rfl⟩
     case round=>
      obtain⟨j,fps,hj,HF,hg,aZ,HV,hown,rfl⟩:=hrel
      rename World=>T
      have q:=Kz hg;have uf:=Kz aZ;have HO:=Kz hown;obtain⟨J,rc,D⟩:=hown.form;obtain⟨M,hM⟩:=nm (L++(Y.2.take j).map (fun a=>(q0,a.1)));have LK:M.length≤17825792:=by rw[hM,List.length_append,List.length_map,List.length_take];omega
      rw[←hM] at D;have HM:=Kz hM;have y0:=iw _ hg;have y1:=kr _ hg;have y2:=ku _ hg;have vB:=blk y0;have vD:=blk y2;have e5:=aZ.aO d1 dV.o;have LM:=blk e5;have ai:=ax.o.wr aZ aj.o;have zn:=Kz ai;clear hg aZ hown hM ai;subst D
      by_cases Z:j<Y.2.length
      ·have O:=Z
       have ai:=zn.o;obtain⟨bp,HY,rfl,H5⟩:=zg j O;obtain⟨p0,p1,p2,p3,zo,LP,uo,zq,zu,zx,LQ,LU,LV,LW⟩:=K5 ai O (Gr.refl _);have uq:=Kz (And.intro y5.o uo);clear ai uo zq zu;have LX:(0:Int)≤(j:Int):=by omega
       have LY:(j:Int)<(Y.2.length:Int):=by omega
       go_wp2_with fail
       have gD:∀c,c<W6.heap.size→c∉O0.toList→c∉(Value.slice J M.length rc).ownBlock.toList:=fun c hc hn hm=>by
        rcases HV.o with e|⟨n,e,LZ⟩
        ·rw[e] at hm;exact hn hm
        ·rw[e] at hm;simp at hm;omega
       have gF:=gD b8 z0 dV.o;have gT:=gD bp (ax.o.lt bp (ax.o.vY (by intro e;rw[e] at Z;simp at Z))) (aj.o bp (ax.o.vY (by intro e;rw[e] at Z;simp at Z)));have L6:=fun(w':World) (h:Wr (Value.slice J M.length rc).ownBlock.toList T w')=>(⟨h.aO e5 gF,h.aO zx gT⟩:_∧_)
       have L8:=fun(w':World) (h:Gr B w')=>(gB.trans h).keep y7
       clear gD gF gT;refine eB (fun w'=>Wr (Value.slice J M.length rc).ownBlock.toList T w'∧Gr B w') 16 (by kernel_rfl) (⟨(Gr.drew (Gr.refl T)).eF _,q.o.drew⟩) (fun hU=>?_);refine aN 0 ?_;refine aN 1 ?_;refine aN 3 ?_;refine aN 7 ?_;refine aN 9 ?_;refine aN 2 ?_;refine aN 8 ?_;refine aN 4 ?_;refine aN 10 ?_;refine aN 5 ?_;refine aN 11 ?_;refine aN 6 ?_;refine aN 12 ?_;refine aN 13 ?_;refine dw [14] ?_;refine(bf.cons rfl (fun K hK=>?_) bf.nil);go_simp;refine hK.out _ _ ⟨(gd:Gr T ((T.alloc (.cells #[.int .i64 q0,.string p0] 45)).drew)).eF _,q.o.trans gd⟩ (fun L9=>?_);clear hK K
       try simp only[Act.put,uq1,uq2,uq3]
       refine dw [15] ?_
       refine(bf.cons rfl (fun K hK=>?_) bf.nil);refine gU (α:=av) (wg:=B) (w0:=B) (tg q) (Nat.le_refl _) (tg q).size (by rfl) _ _ _ (by rfl) 45 i0 _ _ Tryz.underlying34 HZ.o.1 HZ.o.2.1 HZ.o.2.2.1 HZ.o.2.2.2 rfl (.slice J M.length rc) fps _ (by rfl) (HO.o.gr gd) _ [[]] [(q0,p0)] (by rfl) ((eT.one (w:=T) (g:=T.heap.size) rfl (bZ q0 p0 uq.o.1 uq.o.2)).gr gd) (fun b _=>by simp) (by rw[←HM.o];unfold maxLen;simp;omega) (by rw[←HM.o];simp;omega) ?_;intro v9 w9 k1 k2 k3 k4
       replace k1:=Kz k1;have zy:Wr (Value.slice J M.length rc).ownBlock.toList T w9:=((gd:Gr T ((T.alloc (.cells #[.int .i64 q0,.string p0] 45)).drew)).eF _).trans k2;replace k2:=Kz k2;replace k3:=Kz k3;replace k4:=Kz k4;refine hK.out _ _ ⟨zy,k4.o⟩ (fun Ma=>?_);clear hK K
       try simp only[Act.put,uq1,uq2,uq3]
       refine dw [16] ?_
       refine bf.last rfl (fun K hK=>?_)
       go_simp;refine hK.out _ _ ?_;clear hK K
       try simp only[Act.put,uq1,uq2,uq3]
       refine fF (by kernel_rfl) ?_ _
       go_wp2_with fail;have bg:Wr (Value.slice J M.length rc).ownBlock.toList _ w9:=k2.o;have uz:v9.ownBlock=(Value.slice J M.length rc).ownBlock∨_:=k3.o;have zH:=Kz bg;have zL:=Kz uz;clear bg uz;refine⟨⟨j+1,fps++[[]],by omega,Kz (by rw[List.flatten_append,HF.o];rfl),k4.o,uf.o.more HV.o (((gd:Gr T _).eF _).trans zH.o),Kz (tq HV.o zL.o (Nat.le_trans uf.o.size (by simp<;>omega))),?_,by go_num⟩,by simp[intOf];omega⟩
       have e:L++(Y.2.take (j+1)).map (fun a=>(q0,a.1))=M++[(q0,p0)]:=by
        rw[List.take_succ_eq_append_getElem Z,List.map_append,←List.append_assoc,←HM.o,←zo.o];rfl
       have h1:=k1.o;rw[←HM.o] at h1;rw[e];exact h1
      ·have zO:j=Y.2.length:=by omega
       subst zO;go_wp2_with fail;refine⟨⟨k+1,fps,by omega,HF,q.o.trans gd,?_,by go_num⟩,by simp[intOf];omega⟩
       have e:(t0.take (k+1)).flatMap (ll (g0,g1))=M:=by
        rw[List.take_succ_eq_append_getElem O,List.flatMap_append,←HL.o,HM.o,List.take_length,←oH.o,List.flatMap_cons,List.flatMap_nil,List.append_nil];unfold ll;rw[←bR.o]
       have h1:=HO.o;rw[←HM.o] at h1;rw[e];exact h1.gr gd
   ·have bg:k=t0.length:=by omega
    subst bg;have hI:bU (g0,g1) t0=L:=by unfold bU;rw[if_pos bq.o,HL.o,List.take_length]
    have HI:=Kz hI;have ah:=HO.o.fresh (by rw[←HL.o];unfold bn;omega) (by rw[HF.o];exact aY.nil _);rw[←HL.o] at ah;obtain⟨fq,hs,hf⟩:=ah;have HS:=Kz hs;have z8:=Kz (hf.of_le gB.size);clear hI hs hf;go_wp2_with fail;go_ret;exact⟨_,fq,rfl,by rw[HI.o];exact HS.o.gr gd,z8.o,gB.trans (tg q)⟩
 ·have hI:bU (g0,g1) t0=[]:=by unfold bU;rw[if_neg X]
  have HI:=Kz hI;have hb:fP (g0,g1) t0=false:=eq_false_of_ne_true X;have HB:=Kz hb;have bB:=Kz (fun x:Ext=>iC (g0,g1) t0 0 ((((w.alloc (.cells #[.slice ag0 g0.length kg0,.slice ag1 g1.length kg1] 39)).alloc (.cells #[.slice U t0.length V] 43)).alloc (.cells #[] 45)).ext x) (Rd.gr HG.o gd) (Rd.gr HT.o gd) I.o);have bH:=Kz (fun x:Ext=>(lS (g0,g1) t0 (zB (g0,g1) t0 0) ((((w.alloc (.cells #[.slice ag0 g0.length kg0,.slice ag1 g1.length kg1] 39)).alloc (.cells #[.slice U t0.length V] 43)).alloc (.cells #[] 45)).ext x) (Rd.gr HG.o gd) (Rd.gr HT.o gd) I.o gX.o).mono fun e w' h=>(show e=.returned (.bool false)∧_ from⟨by rw[h.1,show kY (g0,g1) t0 (zB (g0,g1) t0 0)=false from HB.o],h.2⟩));clear hI X hb;go_in;go_wp2_with fail;refine wg ?_
  repeat(go_big_quiet_step (first|(go_at_call 68;exact aG (bB.o _))|(go_at_call 67;exact aG (bH.o _))))
  refine wq fun x1=>?_
  go_wp2_with fail;go_ret;exact⟨_,[],rfl,by rw[HI.o];exact⟨_,0,rfl,by simp,by simp,.inl ⟨rfl,rfl⟩⟩,aY.nil _,gd⟩
set_option maxRecDepth 100000 in
theorem qg{fg fr:List Nat}{cg cr:Array Value}(g:af d)(r:aW d)(w:World)(hg:Rd.rd fg w cg.toList g)(hr:Rd.rd fr w cr.toList r)(hl:aP g≤1048576)(hn:r.2.2.1.length≤1048576):
  Qz 174 #[.agg cg,.agg cr] w (.bool (!pB (nV g r))):=by
 clear hl;have HG:=Kz hg;obtain⟨g0,g1,ag0,kg0,q9,ag1,kg1,sO,rfl,rfl,-,uf,gT,gV,D,gX,ik⟩:=yt hg;clear hg;have HR:=Kz hr;obtain⟨I,J,q,K,O,T,ah,ai,uo,aj,ak,uq,au,ax,uz,rfl,rfl,-,ve,vB,vD,iw,kr,vF,ku,ky,vG,lq,oH⟩:=KV hr;clear hr;have vL:q.length≤1048576:=hn;have vO:IntKind.i64.wrap ((q.length:Int)+1)=(q.length:Int)+1:=IntWalk.i64_in _ (by omega);clear hn;delta Qz;go_in;go_wp2_with fail;generalize V:((w.alloc (.cells #[.slice ag0 g0.length kg0,.slice ag1 g1.length kg1] 39)).alloc (.cells #[.string I,.string J,.slice ah q.length ai,.bool K,.slice aj O.length ak,.slice au T.length ax] 128))=B;have gB:Gr w B:=gb V;obtain⟨bg,bq⟩:=kb2 V (w.heap.size) (.slice ag0 g0.length kg0) (.slice ag1 g1.length kg1);obtain⟨bB,bH,bL,bR,bX,cB⟩:=kb6 V (w.heap.size+1) (.string I) (.string J) (.slice ah q.length ai) (.bool K) (.slice aj O.length ak) (.slice au T.length ax);have sB:B.heap.size=w.heap.size+2:=szB V;clear V
 go_loopw [12] (fun s8 wr=>∃(p:Nat),p≤q.length+1∧Ky (∀k:Nat,k<p→(bW g0 (j6 (I,J,q,K,O,T) (k:Int))).isSome=true)∧Gr B wr∧s8=.int .i64 p) (fun s8 _=>q.length+1 - (intOf s8).toNat)
 case atStart=>exact⟨0,by omega,Kz (by intro k hk;omega),gd,rfl⟩
 case round=>
  obtain⟨p,hp,HK,D,rfl⟩:=hrel
  rename World=>W1
  have cK:=Kz D;have y0:=bg _ D;have y1:=bq _ D;have y2:=bB _ D;have y3:=bH _ D;have y4:=bL _ D;have y5:=bR _ D;have y6:=bX _ D;have y7:=cB _ D;have cO:=blk y0;have dB:=blk y2;have ay:=gB.trans D;have U:=Kz ay
  by_cases dS:p≤q.length
  ·have oL:(p:Int)≤(q.length:Int):=by omega
   have o5:(p:Int)<(q.length:Int)+1:=by omega
   have p0:(0:Int)≤(p:Int):=by omega
   have vR:=zI1 p (by omega);obtain⟨S,hS⟩:=nm (j6 (I,J,q,K,O,T) (p:Int));have X:=Kz hS;obtain⟨R,hR⟩:=nm ((bW g0 S).isSome);have Y:=Kz hR;clear hS hR
   go_upto_region 4 with fail
   have dV:=fun(w':World) (h:Gr W1 w')=>(⟨h.keep y0,h.keep y1,h.keep y2,h.keep y3,h.keep y4,h.keep y5,h.keep y6,h.keep y7⟩:_∧_∧_∧_∧_∧_∧_∧_)
   clear ay
   go_cut [7] (fun sp wx=>Ez W1 R sp wx)
   case first=>
    go_region_held3 (fun w'=>Gr W1 w') (exact ga)
     (first|(go_at_call 215;refine(jF (I,J,q,K,O,T) (p:Int) _ (Rd.gr HR.o (U.o.trans ga))).mono ?_;rintro e w' ⟨rfl,x2,rfl⟩;rw[←X.o])|(go_at_call 86;refine(dY (g0,g1) S _ (Rd.gr HG.o (U.o.trans ga))).mono ?_;rintro e w' ⟨es,fq,rfl,hr,fe,x3,rfl⟩;obtain⟨s0,s1,vX,wF,wL,Z,rfl,-,w9,xc,o9,qb⟩:=Lg (x:=(bW g0 S).getD dE) hr;have x9:=Kz Z;have yc:=Lt Z hr;clear hr Z;obtain⟨bb,ae⟩:∃b:Bool,b=(bW g0 S).isSome:=⟨_,rfl⟩;rw[←ae];have fu:=Kz ae;clear ae;clear fe))
    all_goals
     go_wp2_with fail;go_meet;have hb:bb=R:=fu.o.trans Y.o.symm;subst hb;exact⟨rfl,gd⟩
   case rest=>
    obtain⟨rfl,g2⟩:=hcut
    rename World=>W2
    have gD:=Kz (cK.o.trans g2);have aZ:=Kz (U.o.trans g2);have z2:=g2.keep y2;have yu:=blk z2;clear dV y0 y1 y2 y3 y4 y5 y6 y7 cO dB g2
    cases R with
    |true=>
     go_wp2_with fail;refine⟨⟨p+1,by omega,Kz fun k hk=>?_,gD.o,by go_num⟩,by simp[intOf];omega⟩
     by_cases gF:k<p
     ·exact HK.o k gF
     ·obtain rfl:k=p:=by omega
      rw[←X.o];exact Y.o.symm
    |false=>
     go_wp2_with fail;go_ret;exact⟨aa (by rw[bV (show¬nV (g0,g1) (I,J,q,K,O,T) from fun h=>by have h1:=h p dS;rw[←X.o] at h1;exact absurd (Y.o.trans h1) (by decide))];try rfl),aZ.o⟩
  ·have y8:p=q.length+1:=by omega
   have y9:¬((p:Int)≤(q.length:Int)):=by omega
   have q8:¬((p:Int)<(q.length:Int)+1):=by omega
   go_wp2_with fail;go_ret;exact⟨aa (by rw[bQ (show nV (g0,g1) (I,J,q,K,O,T) from fun k hk=>HK.o k (by have:k≤q.length:=hk;omega))];try rfl),U.o⟩
end Go.Proofs.YtleafadpfeibfaaGreat
