/- Contracts and laws towards ReadsOf, part 46 of 54. No condition. -/
import Derived.Test.YtdhighcpmcdmmaaGreatFx44
import Derived.Test.YtdhighcpmcdmmaaGreatFx38
set_option maxHeartbeats 32000000
set_option maxRecDepth 10000
set_option linter.unusedVariables false
set_option linter.unusedSimpArgs false
namespace Go.Proofs.YtdhighcpmcdmmaaGreat
open Go.RowKit
variable{d:Nat}
variable{fg fr:List Nat}{cg cr:Array Value}
theorem NJ(fx s B:List Nat)(cx:Array Value)(us q:Value)(x:aA d)(S:List gV)(lit:Int)(h:List Int)(v:Int)(w:World)(D:Rd.rd fx w cx.toList x)(E:SlR s w us S)(H:SlR B w q h)(I:ak x≤1048576)(J:(if pB (Da x)=true then mE S lit h (d+1) x else 0)=v):
  Qz 63 #[.agg cx,us,.int .i64 lit,q] w (.int .i64 v):=by
 rw[←J];exact Nc fx s B cx us q x S lit h w D E H I
theorem NZ{g:af d}{t:List aT}{x:av}{p:ig d}(E:aP g≤1048576)(h:dS g t x=some p):∃m:Nat,p.1=(m:Int)∧m<t.length∧ak p.2≤1048576:=by
 have key:∀(o q:Int) (n:ByteArray),KL g t o q n=some p→∃m:Nat,p.1=(m:Int)∧m<t.length∧ak p.2≤1048576:=by
  intro o q n B
  by_cases H:o<0∨(t.length:Int) - 1<o
  ·rw[mQ H] at B;cases B
  ·obtain⟨m,rfl⟩:∃m:Nat,o=m:=⟨o.toNat,by omega⟩
   have hm:m<t.length:=by omega
   obtain⟨r,D⟩:=nm ((dJ g.2 t[m].2.2.2.2.1).getD fH);have hw:=wh E t[m].2.2.2.2.1;rw[←D] at hw;rw[oF hm D] at B;obtain⟨e,he,rfl⟩:=Option.map_eq_some_iff.1 B;refine⟨m,rfl,hm,?_⟩;obtain⟨q,I,rfl⟩:=Option.map_eq_some_iff.1 he;obtain⟨j,J,rfl⟩:=List.mem_iff_getElem.1 (List.mem_of_find?_eq_some I);obtain⟨K,O,T,Y,s,U⟩:=r;have X:K.size+O.size+wtL ByteArray.size T+wtL aU s+wtL aI U≤1048576:=hw;have Z:=dI aU s J;have h2:aU s[j]=dn s[j].1+ak s[j].2:=rfl
   show ak (s[j].2:aA d)≤_
   omega
 unfold dS at h
 split at h
 ·cases h
 ·split at h
  ·cases h
  ·split at h
   ·split at h
    ·cases h
    ·exact key _ _ _ h
   ·exact key _ _ _ h
def OC(B:World)(o:Option (ig d))(h q:Value)(wr:World):Prop:=
 ∃b cs fr,h=.pointer (some ⟨b,0,none⟩)∧q=.bool o.isSome∧Gr B wr∧(∀j v,cs[j]?=some v→wr.cell? ⟨b,j,none⟩=some v)∧Rd.rd fr wr cs (o.getD qW)∧∀c∈fr,B.heap.size≤c
theorem MJ{ft fx fL fV:List Nat}{ct cx:Array Value}{uL uV:Value}(g:af d)(t:List aT)(x:av)(L:List av)(V:List Int)(w:World)(hg:Rd.rd fg w cg.toList g)(ht:Rd.rd (α:=fU) ft w ct.toList t)(hx:Rd.rd fx w cx.toList x)(hL:SlR fL w uL L)(hV:SlR fV w uV V)(hl:aP g≤1048576)(dC:gY t≤1048576)(dG:fP g t=true)(dL:L=bU g t)(dU:L.length=V.length):
  Qz 27 #[.agg cg,.agg ct,.agg cx,uL,uV] w (.int .i64 (F8 g t L V x)):=by
 have bg:=Kz hl;have dW:=Kz dC;have kQ:=Kz dG;have kS:=Kz dL;have kT:=Kz dU;have kX:=Kz hV;have j5:=Kz hL;obtain⟨aL,kL,rfl,-,-,-⟩:=hL.open;obtain⟨aV,kV,rfl,-,-,-⟩:=hV.open;clear hl dC dG dL dU hV hL;have HG:=Kz hg;obtain⟨Y,Z,eH,fe,qN,fu,fw,qR,rfl,rfl,-,qV,pG,pM,qX,pR,pV⟩:=yt hg;clear hg;have HT:=Kz ht;obtain⟨t0,fA,fK,rf,rfl,rfl,-,gm,p9,qo⟩:=K8 ht;have ku:=gm.op3;clear ht;have HX:=Kz hx;obtain⟨x0,x1,rfl,rfl,-,rq,rD⟩:=K7 hx;clear hx;obtain⟨O,hO⟩:=nm (dS (Y,Z) t0 (x0,x1));have ah:=Kz (show F8 (Y,Z) t0 L V (x0,x1)=OJ (Y,Z) t0 L V O by rw[hO];rfl);have HD:=Kz hO;obtain⟨bq,bB⟩:=nm (F8 (Y,Z) t0 L V (x0,x1));rw[←bB] at ah ⊢;clear hO bB;delta Qz;go_in
 go_upto_region 1 with fail
 generalize hB:(((w.alloc (.cells #[.slice eH Y.length fe,.slice fu Z.length fw] 36)).alloc (.cells #[.slice fA t0.length fK] 40)).alloc (.cells #[.int .i64 x0,.string x1] 63))=B;have gB:Gr w B:=gb hB;obtain⟨gD,gF⟩:=kb2 hB (w.heap.size) (.slice eH Y.length fe) (.slice fu Z.length fw);have gH:=kb hB (w.heap.size+1) 0 (.slice fA t0.length fK);obtain⟨kZ,lq⟩:=kb2 hB (w.heap.size+2) (.int .i64 x0) (.string x1);have sB:B.heap.size=w.heap.size+3:=szB hB;clear hB;have y0:=gD _ (Gr.refl _);have y1:=gF _ (Gr.refl _);have y2:=gH _ (Gr.refl _);have y3:=kZ _ (Gr.refl _);have y4:=lq _ (Gr.refl _);have gM:=blk y0;have gT:=blk y2;have lG:=blk y3;have aZ:=Kz gB
 go_cut [11,12] (fun s8 s9 wr=>OC B O s8 s9 wr)
 case first=>
  go_wp2_with (first|(go_at_call 62;refine(Cw (Y,Z) t0 (x0,x1) _ (Rd.gr HG.o (tg aZ)) (Rd.gr HT.o (tg aZ)) (Rd.gr HX.o (tg aZ)) bg.o).mono ?_;rintro e w' ⟨es,fq,rfl,hr,lV,z9,rfl⟩;obtain⟨p0,D,E,H,I,J,T,U,ky,kz,qD,hyp,rfl,-,ik,aj,au,ax,ay,aN,aS,ai,oV,oW⟩:=Lp (x:=(dS (Y,Z) t0 (x0,x1)).getD qW) hr;have l5:=Kz hyp;have bD:=Lt hyp hr;clear hr hyp;obtain⟨bb,ae⟩:∃b:Bool,b=(dS (Y,Z) t0 (x0,x1)).isSome:=⟨_,rfl⟩;rw[←ae];have l6:=Kz ae;clear ae))
  all_goals
   go_meet;have bH:∀c∈fq,_≤c:=fun c hc=>(lV c hc).resolve_left (by simp)
   have ae:bb=O.isSome:=by rw[HD.o];exact l6.o
   refine⟨_,[.int .i64 p0,.int .i64 D,.int .i64 E,.int .i64 H,.int .i64 I,.string J,.string T,.slice ky U.length kz],fq,rfl,by rw[ae],gd,fun j u q=>?_,?_,fun c hc=>by have h:=bH c hc;first|omega|(simp at h;omega)⟩
   ·match j,q with
    |0,q=>obtain rfl:=Option.some.inj q;exact kd
    |1,q=>obtain rfl:=Option.some.inj q;exact kd
    |2,q=>obtain rfl:=Option.some.inj q;exact kd
    |3,q=>obtain rfl:=Option.some.inj q;exact kd
    |4,q=>obtain rfl:=Option.some.inj q;exact kd
    |5,q=>obtain rfl:=Option.some.inj q;exact kd
    |6,q=>obtain rfl:=Option.some.inj q;exact kd
    |7,q=>obtain rfl:=Option.some.inj q;exact kd
   ·rw[HD.o,←l5.o]
    first
     |(refine Rd.gr bD.o ?_;(repeat(first|exact Gr.refl _|apply Gr.ext|apply Gr.alloc|apply Gr.drew));done)
     |((with_reducible refine Rd.mono (dO ?_) bD.o);exact fun c hc e=>by subst e;have:=bH _ hc;simp at this;omega)
     |((with_reducible refine Rd.mono (dM ?_) bD.o);exact fun c hc e=>by subst e;have:=bH _ hc;simp at this;omega)
 case rest=>
  obtain⟨b8,l7,rE,rfl,rfl,g8,s,bK,l8⟩:=hcut
  rename World=>W5
  have X:=Kz (aZ.o.trans g8);have bL:=Kz g8;clear y0 y1 y2 y3 y4 gM gT lG
  cases O with
  |none=>
   have ma:=Kz (show bq=0 from ah.o);clear s bK ah;go_wp2_with fail;go_ret;exact⟨aC ma.o.symm,X.o⟩
  |some PP=>
   obtain⟨m,hm,bN,bV⟩:=NZ bg.o HD.o.symm;obtain⟨p0,D,E,H,I,J,T,U⟩:=PP;obtain⟨vp,rR,iw,kE,ik,aj,au,ax,ay,aN,aS,ai⟩:=jE (cs:=l7.toArray) p0 D E H I J T U (by simpa using bK);obtain rfl:=toL iw;have mf:=Kz (bJ (d:=d) (w:=W5) D E H I J T U aj au ax ay aN aS ai);obtain⟨rT,sw,rfl,-,-,-⟩:=ai.open;simp only at hm bV;subst hm;have mh:=Kz bN;have mo:=Kz (show ak ((D,E,H,I,J,T,U):aA d)≤1048576 from bV);have d0:=s 0 _ rfl;have d1:=s 1 _ rfl;have d2:=s 2 _ rfl;have d3:=s 3 _ rfl;have d4:=s 4 _ rfl;have d5:=s 5 _ rfl;have d6:=s 6 _ rfl;have d7:=s 7 _ rfl;have zd:=blk d0;have jN:=bN;have jX:=X.o;obtain⟨b,off,rfl,ae⟩:=ku m jN;obtain⟨n0,n1,n2,n3,n4,n5,sG,sH,sN,sO,mq,sW,mr,mH,mZ,nz,nM,nO,qE,qG,nP,nS,nZ,oh,oo,oq,tJ⟩:=KZ gm jN jX;have ow:=Kz (show NV t0 (m:Int)=n3 by unfold NV;rw[gG bN,←mq.o]);have oz:=Kz (show bq=(if pB (Da ((D,E,H,I,J,T,U):aA d))=true then mE (slotsOf (Y,Z) t0 L V (m:Int)) n3 (iB t0 (m:Int)) (d+1) ((D,E,H,I,J,T,U):aA d) else 0) by rw[ah.o,←ow.o];rfl);have m0:(0:Int)≤(m:Int):=by omega
   have m1:(m:Int)<(t0.length:Int):=by omega
   have y0:=gD _ bL.o;have y1:=gF _ bL.o;have y2:=gH _ bL.o;have gM:=blk y0;have gT:=blk y2;clear s bK l8 ik aj au ax ay aN aS ai jX mr mH mZ nz nM nO nP nS nZ oo oq bV iw kE
   go_upto_region 4 with fail
   have uh:=fun(w':World) (h:Gr W5 w')=>(⟨h.keep d0,h.keep d1,h.keep d2,h.keep d3,h.keep d4,h.keep d5,h.keep d6,h.keep d7,h.keep y0,h.keep y1,h.keep y2,h.keep oh⟩:_∧_∧_∧_∧_∧_∧_∧_∧_∧_∧_∧_)
   refine wp_region_held_drew (S:=(fun w'=>Gr W5 w')) (by kernel_rfl) ((gd:Gr W5 W5.drew)) (fun o9=>?_)
   refine aK 0 22 ?_
   refine aK 2 24 ?_
   refine aK 3 25 ?_
   refine aK 4 26 ?_
   refine aK 6 28 ?_
   refine aK 7 29 ?_
   refine aK 9 31 ?_
   refine aK 11 33 ?_
   refine aK 16 38 ?_
   refine aK 17 39 ?_
   refine aK 1 23 ?_
   refine aK 5 27 ?_
   refine aK 10 32 ?_
   refine aK 12 34 ?_
   refine aK 18 40 ?_
   refine aK 13 35 ?_
   refine aK 14 36 ?_
   refine aK 15 37 ?_
   refine gy [8] ?_
   refine AllReadyH.cons rfl (fun K hK=>?_) AllReadyH.nil
   go_simp
   go_at_call 64
   refine(MH (Y,Z) t0 m L V _ (Rd.gr HG.o (tg X)) (Rd.gr HT.o (tg X)) (j5.o.gr (tg X)) (kX.o.gr (tg X)) bg.o dW.o kQ.o mh.o kS.o kT.o).mono ?_;rintro e8 w8 ⟨v8,f8,rfl,cK,oG,g8⟩;have oH:=Kz cK;have cO:Gr W5 w8:=Gr.trans gd g8;skip;obtain⟨a8,k8,rfl,-,-,-⟩:=cK.open;clear cK oG g8;refine hK.out _ _ cO (fun ui=>?_);clear hK K
   try simp only[Act.put,uq1,uq2,uq3]
   refine gy [19] ?_
   refine AllReadyH.cons rfl (fun K hK=>?_) AllReadyH.nil
   go_simp
   go_at_call 65
   refine(Ak t0 (m:Int) _ (Rd.gr HT.o (X.o.trans (cO.trans gd))) dW.o).mono ?_;rintro e9 w9 ⟨v9,f9,rfl,dz,oK,g9⟩;have oL:=Kz dz;have dA:Gr W5 w9:=Gr.trans (cO.trans gd) g9;have oN:Gr w8 w9:=Gr.trans gd g9;obtain⟨a9,k9,rfl,-,-,-⟩:=dz.open;clear dz oK g9;refine hK.out _ _ dA (fun um=>?_);clear hK K
   try simp only[Act.put,uq1,uq2,uq3]
   refine gy [20] ?_
   refine AllReadyH.cons rfl (fun K hK=>?_) AllReadyH.nil
   go_simp
   go_at_call 63
   refine(NJ _ f8 f9 _ _ _ ((D,E,H,I,J,T,U):aA d) (slotsOf (Y,Z) t0 L V (m:Int)) n3 (iB t0 (m:Int)) bq _ (Rd.gr mf.o (dA.trans gd)) (oH.o.gr (oN.trans gd)) (oL.o.gr gd) mo.o oz.o.symm).mono ?_;rintro e7 w7 ⟨rfl,g7⟩;have j4:Gr W5 w7:=Gr.trans (dA.trans gd) g7;clear g7;refine hK.out _ _ j4 (fun uq=>?_);clear hK K
   try simp only[Act.put,uq1,uq2,uq3]
   refine aK 21 10 ?_
   refine wpAnyH_done (by kernel_rfl) ?_ _
   go_wp2_with fail;go_ret;exact⟨rfl,X.o.trans (j4.trans gd)⟩
set_option maxRecDepth 100000 in
theorem M4(g:af d)(r:aW d)(w:World)(hg:Rd.rd fg w cg.toList g)(hr:Rd.rd fr w cr.toList r)(hl:aP g≤1048576)(hn:r.2.2.1.length≤1048576):
  Calls Tryz.prog 144 #[.agg cg,.agg cr] w (p8 w (zq g r)):=by
 obtain⟨i0,hi⟩:=info_parts Tryz.nX;have HZ:=Kz hi;clear hi;have ax:=Kz hl;clear hl;have HG:=Kz hg;obtain⟨I,J,bK,bL,oh,bN,bV,oo,rfl,rfl,-,oq,l7,l8,s,ma,mf⟩:=yt hg;clear hg;have HR:=Kz hr;obtain⟨K,O,q,T,U,X,cK,cO,ow,dz,dA,oz,dC,dG,oG,rfl,rfl,-,oH,oK,oL,mh,mo,oN,mq,mr,oV,mH,mZ⟩:=KV hr;clear hr;have oW:q.length≤1048576:=hn;have o9:IntKind.i64.wrap ((q.length:Int)+1)=(q.length:Int)+1:=IntWalk.i64_in _ (by omega);clear hn;go_in;go_wp2_with fail;generalize hB:((w.alloc (.cells #[.slice bK I.length bL,.slice bN J.length bV] 36)).alloc (.cells #[.string K,.string O,.slice cK q.length cO,.bool T,.slice dz U.length dA,.slice dC X.length dG] 112))=B;have gB:Gr w B:=gb hB;obtain⟨gm,gD⟩:=kb2 hB (w.heap.size) (.slice bK I.length bL) (.slice bN J.length bV);obtain⟨dL,gF,gH,gM,gT,ik⟩:=kb6 hB (w.heap.size+1) (.string K) (.string O) (.slice cK q.length cO) (.bool T) (.slice dz U.length dA) (.slice dC X.length dG);have sB:B.heap.size=w.heap.size+2:=szB hB;clear hB
 go_loopw [14,5] (fun s8 s7 wr=>∃(p:Nat) (fps:List (List Nat)),p≤q.length+1∧Ky (fps.flatten=[])∧Gr B wr∧bE (α:=ag) B 132 wr s7 fps ((List.range p).flatMap (occAt (I,J) (K,O,q,T,U,X)))∧s8=.int .i64 p) (fun s8 _ _=>q.length+1 - (intOf s8).toNat)
 case atStart=>exact⟨0,[],by omega,Kz rfl,gd,bE.kF (α:=ag) (w0:=B) (w:=B) 132 (Nat.le_refl _) (by omega),rfl⟩
 case round=>
  obtain⟨p,fps,hp,HF,s,hown,rfl⟩:=hrel;obtain⟨os,ah⟩:=nm ((List.range p).flatMap (occAt (I,J) (K,O,q,T,U,X)));rw[←ah] at hown
  have iw:os.length≤1048576*p:=by
   rw[ah];exact LK ax.o p
  have ay:=Kz ah.symm;have jN:=Kz iw;clear ah
  rename World=>W1
  have jX:=Kz s;have HO:=Kz hown;obtain⟨ra,rc,Y⟩:=hown.form;subst Y;have y0:=gm _ s;have y1:=gD _ s;have y2:=dL _ s;have y3:=gF _ s;have y4:=gH _ s;have y5:=gM _ s;have y6:=gT _ s;have y7:=ik _ s;have j4:=blk y0;have j5:=blk y2;have dU:=gB.trans s;have aL:=Kz dU;have ku:=Kz (show∀b∈(Value.slice ra os.length rc).ownBlock.toList,B.heap.size≤b∧b<W1.heap.size from fun b H=>hown.base b (by simpa using H));clear hown
  by_cases aN:p≤q.length
  ·have nz:(p:Int)≤(q.length:Int):=by omega
   have nM:(p:Int)<(q.length:Int)+1:=by omega
   have p0:(0:Int)≤(p:Int):=by omega
   have pG:=zI1 p (by omega);obtain⟨S,hS⟩:=nm (j6 (K,O,q,T,U,X) (p:Int));obtain⟨D,ai⟩:=nm (LU (I,J) S);have ky:=Kz (show D.length≤1048576 by rw[ai];exact Nat.le_trans (Lv _) (tX ax.o S));have pM:D.length≤1048576:=ky.o;have kz:=Kz (show occAt (I,J) (K,O,q,T,U,X) p=D.map fun a=>((p:Int),a.1) by rw[ai,hS];rfl);have kE:=Kz ai;have kL:=Kz hS;clear hS ai
   go_upto_region 5 with fail
   have kQ:=fun(w':World) (h:Gr W1 w')=>(⟨h.keep y0,h.keep y1,h.keep y2,h.keep y3,h.keep y4,h.keep y5,h.keep y6,h.keep y7⟩:_∧_∧_∧_∧_∧_∧_∧_)
   clear dU
   go_region_held3 (fun w'=>Gr W1 w') (exact ga)
    (first|(go_at_call 210;refine(jF (K,O,q,T,U,X) (p:Int) _ (Rd.gr HR.o (aL.o.trans ga))).mono ?_;rintro e w' ⟨rfl,x2,rfl⟩;rw[←kL.o])|(go_at_call 209;refine(Na (I,J) S _ (Rd.gr HG.o (aL.o.trans ga)) ax.o).mono ?_;rintro e w' ⟨v7,f7,rfl,aj,dW,x3,rfl⟩;rw[←kE.o] at aj;have eH:=Kz aj;have kS:=Kz dW;obtain⟨a7,k7,rfl,-,-,-⟩:=aj.open;clear aj dW))
   obtain⟨W2,aS⟩:=nm (((W1.drew.ext x2).ext x3));rw[←aS] at eH ⊢;have aV:Gr W1 W2:=by rw[aS];exact gd
   have kT:=Kz (jX.o.trans aV)
   have fA:=Kz (show∀b∈(Value.slice ra os.length rc).ownBlock.toList,b∉f7 from fun b H hm=>by
    have h1:=ku.o b H;have h2:=kS.o.2 b hm;simp at h2;omega)
   have kV:=eH;have kX:=Kz (HO.o.gr aV);clear aS aV kQ y0 y1 y2 y3 y4 y5 y6 y7 j4 j5;go_wp2_with fail
   go_loopw [23,5] (fun s8 s5 wr=>∃(j:Nat) (E:List (List Nat)),j≤D.length∧Ky (E.flatten=[])∧Ky (Gr B wr)∧bE (α:=ag) B 132 wr s5 E (os++(D.take j).map fun a=>((p:Int),a.1))∧Ky (SlR f7 wr (.slice a7 D.length k7) D)∧Ky (∀b∈s5.ownBlock.toList,b∉f7)∧s8=.int .i64 j) (fun s8 _ _=>D.length - (intOf s8).toNat)
   case atStart=>exact⟨0,fps,by omega,HF,kT,by rw[List.take_zero];show bE _ _ _ _ _ (os++[]);rw[List.append_nil];exact kX.o,kV,fA,rfl⟩
   case round=>
    obtain⟨j,E,hj,fe,au,hown,aZ,bg,rfl⟩:=hrel;obtain⟨ae,Z⟩:=nm (os++(D.take j).map fun a=>((p:Int),a.1));rw[←Z] at hown
    have nO:ae.length≤1048576*p+1048576:=by
     rw[Z,List.length_append,List.length_map,List.length_take];have h4:=jN.o;omega
    have bB:=Kz Z;clear Z
    rename World=>W3
    have fu:=Kz hown;obtain⟨rb,rd,Y⟩:=hown.form;subst Y;clear hown
    by_cases bD:j<D.length
    ·have bH:=aZ.o
     obtain⟨a',c',he,o1,o2,fK⟩:=bH.open;injection he with e1 e2 e3;subst e1 e3;have aN:=bD;obtain⟨bq,nP,rfl,nS⟩:=fK j aN;obtain⟨q0,q1,q2,q3,kZ,pR,fw,lq,lG,pV,p9,qo,qD,qE⟩:=K5 bH aN (Gr.refl _);have HQ:=Kz fw;have HX:=Kz (show os++(D.take (j+1)).map (fun a=>((p:Int),a.1))=ae++[((p:Int),q0)] by rw[List.take_succ_eq_append_getElem bD,List.map_append,←kZ.o,bB.o,List.append_assoc];rfl);have j0:(0:Int)≤(j:Int):=by omega
     have j1:(j:Int)<(D.length:Int):=by omega
     have qG:=zI1 j (by omega);clear fw lq lG bH
     go_wp2_with (first|(at_builtin;refine eU (α:=ag) (wg:=B) (w0:=B) (tg au) (Nat.le_refl _) (tg au).size rfl _ _ 129 rfl 132 i0 _ _ Tryz.underlying129 HZ.o.1 HZ.o.2.1 HZ.o.2.2.1 HZ.o.2.2.2 rfl _ E ae (by rfl) (fu.o.gr gd) _ [[]] [((p:Int),q0)] (by rfl) (eT.one (by simp) (bO _ q0 (jm (by omega) (by omega)) HQ.o)) (fun b _=>by simp) (by unfold maxLen;simp;omega) (by simp;omega) ?_;intro v3 w3 h1 h2 h3 h4;have K1:=Kz h1;have K4:=Kz h4;have K2:=Kz ((show Gr W3 _ from gd).eF _ |>.trans h2);have K3:=Kz (show∀b∈v3.ownBlock.toList,b∈(Value.slice rb ae.length rd).ownBlock.toList∨W3.heap.size≤b from fun b H=>h3.elim (fun e=>.inl (by rw[e] at H;exact H)) (fun e=>.inr (by rw[e] at H;simp at H;omega)));clear h1 h2 h3 h4))
     refine⟨⟨j+1,E++[[]],by omega,Kz (by rw[List.flatten_append,fe.o];rfl),K4,by rw[HX.o];exact K1.o,Kz (aZ.o.wr K2.o (fun b H hm=>(bg.o b hm) H)),Kz (fun b H=>?_),by go_num⟩,by simp[intOf];omega⟩;rcases K3.o b H with h|h
     ·exact bg.o b h
     ·have h9:=aZ.o.lt
      exact fun hm=>by have:=h9 b hm;omega
    ·have lV:j=D.length:=by omega
     subst lV;have l5:=Kz (show(List.range (p+1)).flatMap (occAt (I,J) (K,O,q,T,U,X))=ae by rw[bB.o,List.range_succ,List.flatMap_append,ay.o,List.flatMap_singleton,kz.o,List.take_length]);have y0:=dL _ au.o;go_wp2_with fail;refine⟨⟨p+1,E,by omega,fe,au.o,?_,by go_num⟩,by simp[intOf];omega⟩;rw[l5.o];exact fu.o
  ·have l6:p=q.length+1:=by omega
   have qN:¬((p:Int)≤(q.length:Int)):=by omega
   have nZ:¬((p:Int)<(q.length:Int)+1):=by omega
   obtain⟨fq,h1,h2⟩:=HO.o.fresh (by unfold bn;omega) (by rw[HF.o];exact aY.nil _);have H1:=Kz (show SlR fq W1 (.slice ra os.length rc) (zq (I,J) (K,O,q,T,U,X)) by rw[l6] at ay;unfold zq;rw[ay.o];exact h1);have H2:=Kz (h2.of_le gB.size);clear h1 h2;go_wp2_with fail;go_ret;exact⟨_,fq,rfl,H1.o,H2.o,aL.o⟩
theorem NW{fo:List Nat}{co:Array Value}(g:af d)(r:aW d)(o:ag)(bg br:Nat)(tg tr:TypeId)(w:World)(s:Rd.rd fg w cg.toList g)(h:Rd.rd fr w cr.toList r)(B:Rd.rd fo w co.toList o)(vg:az w bg tg cg.toList)(vr:az w br tr cr.toList):
  Qz 145 #[.agg co,.pointer (some ⟨bg,0,none⟩),.pointer (some ⟨br,0,none⟩)] w (.bool (!((jf g r o).getD dR).2.2.2)):=by
 obtain⟨R,D⟩:=nm (((jf g r o).getD dR).2.2.2);have E:=Kz D;rw[←D];clear D;have HG:=Kz s;obtain⟨H,I,bD,bH,bK,bL,bN,bV,rfl,rfl,-,cK,au,ax,cO,ay,aL⟩:=yt s;clear s;have HR:=Kz h;obtain⟨J,K,O,T,U,X,dz,dA,dC,dG,dL,dU,dW,eH,fe,rfl,rfl,-,fu,fw,fA,aN,aS,fK,aV,aZ,gm,bq,bB⟩:=KV h;clear h;have HO:=Kz B;obtain⟨Y,Z,rfl,rfl,-,gB,gD⟩:=KT B;clear B;obtain⟨ae,gF⟩:=vg.c2;obtain⟨ah,gH,gM,gT,ik,iw⟩:=vr.c6;have jN:=blk ae;have jX:=blk ah;clear vg vr;delta Qz;go_in
 go_wp2_with (first|(go_at_call 146;refine(mM (H,I) (J,K,O,T,U,X) (Y,Z) _ (Rd.gr HG.o gd) (Rd.gr HR.o gd) (Rd.gr HO.o gd)).mono ?_;rintro e w' ⟨es,fq,rfl,h,j4,x3,rfl⟩;obtain⟨p0,p1,p2,p3,hyp,rfl,-,j5,ku,ky⟩:=Ld (x:=(jf (H,I) (J,K,O,T,U,X) (Y,Z)).getD dR) h;have ai:=Kz hyp;have kz:=Lt hyp h;clear h hyp;obtain⟨bb,q⟩:∃b:Bool,b=(jf (H,I) (J,K,O,T,U,X) (Y,Z)).isSome:=⟨_,rfl⟩;rw[←q];have kE:=Kz q;clear q))
 all_goals
  go_ret;have aj:R=p3:=by rw[E.o,←ai.o]
  subst aj;exact⟨rfl,gd⟩
theorem MX(g:af d)(r:aW d)(w:World)(I:Rd.rd fg w cg.toList g)(J:Rd.rd fr w cr.toList r)(hl:aP g≤1048576)(hn:r.2.2.1.length≤1048576)(hc:(zq g r).length≤1048576):
  Calls Tryz.prog 73 #[.agg cg,.agg cr] w (p8 w (q8 g r)):=by
 have ae:=Kz I;have ah:=Kz J;have bL:=Kz hl;have HN:=Kz hn;have bN:=Kz hc;obtain⟨LL,D⟩:=nm (zq g r);obtain⟨P,hP⟩:∃P:ag→Bool,P=fun o=>!((jf g r o).getD dR).2.2.2:=⟨_,rfl⟩
 have bH:=Kz (show LL.filter (fun y=>!P y)=q8 g r by
  unfold q8;rw[←D,hP];apply List.filter_congr;intro o ho
  rw[D] at ho;rw[Ov (OG ho),Bool.not_not])
 have ai:=Kz D;have bV:=Kz hP;clear D hP hc;have HG:=Kz I;obtain⟨K,O,aj,au,fK,ax,ay,gm,rfl,rfl,-,gD,dC,dG,gF,dL,dU⟩:=yt I;clear I;have HR:=Kz J;obtain⟨T,U,X,Y,Z,r5,aL,aN,gH,aS,aV,gM,aZ,bg,gT,rfl,rfl,-,ik,iw,jN,dW,eH,jX,fe,fu,j4,fw,fA⟩:=KV J;clear J;clear hl hn;go_in;go_wp2_with fail;generalize H:((w.alloc (.cells #[.slice aj K.length au,.slice ax O.length ay] 36)).alloc (.cells #[.string T,.string U,.slice aL X.length aN,.bool Y,.slice aS Z.length aV,.slice aZ r5.length bg] 112))=B;have gB:Gr w B:=gb H;have VG:=Kz (show az B w.heap.size 36 (Array.toList #[.slice aj K.length au,.slice ax O.length ay]) from by rw[←H];exact(az.new (A:=w) rfl).gr gd);have VR:=Kz (show az B (w.heap.size+1) 112 (Array.toList #[.string T,.string U,.slice aL X.length aN,.bool Y,.slice aS Z.length aV,.slice aZ r5.length bg]) from by rw[←H];exact az.new (by simp));have j5:B.heap.size=w.heap.size+2:=by rw[←H];simp
 have q:=Kz gB;clear H gB;refine(M4 (K,O) (T,U,X,Y,Z,r5) _ (Rd.gr HG.o q.o) (Rd.gr HR.o q.o) bL.o HN.o).mono ?_;rintro e w' ⟨v,fq,rfl,hs,hf,x1,rfl⟩;rw[←ai.o] at hs;have HS:=Kz hs;have E:=Kz hf;obtain⟨aq,kq,rfl,-,-,-⟩:=hs.open;clear hs hf;have cK:=Kz (fun(W:World) (h:Wr fq (B.ext x1) W)=>(VG.o.gr gd).wr h (fun hm=>by have h2:=E.o.2 _ hm;omega));have cO:=Kz (fun(W:World) (h:Wr fq (B.ext x1) W)=>(VR.o.gr gd).wr h (fun hm=>by have h2:=E.o.2 _ hm;omega))
 have bq:=Kz (show∀b∈fg++fr,b∉fq from fun b s hm=>by
  have h2:=E.o.2 b hm;rcases List.mem_append.1 s with h|h
  ·have h3:=Rd.lt ae.o b h
   omega
  ·have h3:=Rd.lt ah.o b h
   omega)
 have HT:=Kz (show TestDelO fq (B.ext x1) 145 #[.pointer (some ⟨w.heap.size,0,none⟩),.pointer (some ⟨w.heap.size+1,0,none⟩)] P from
  ⟨Tryz.call145,fun z W fp cs hW hz=>by
   rw[bV.o];exact NW (K,O) (T,U,X,Y,Z,r5) z w.heap.size (w.heap.size+1) _ _ _ (Rd.wr (Rd.gr ae.o (tg q)) hW (fun b s=>bq.o b (List.mem_append_left _ s))) (Rd.wr (Rd.gr ah.o (tg q)) hW (fun b s=>bq.o b (List.mem_append_right _ s))) hz (cK.o _ hW) (cO.o _ hW)⟩)
 go_wp2_with fail;refine(L6 _ _ LL _ _ P _ (HS.o.gr gd) E.o.1 (by rw[ai.o];exact bN.o) HT.o).mono ?_;rintro e w' ⟨v2,f2,rfl,bB,hsub,bD⟩;have dz:=Kz bB;have bK:=Kz hsub;have dA:=Kz bD;clear bB hsub bD;go_wp2_with fail;go_ret;exact⟨v2,f2,rfl,by rw[←bH.o];exact dz.o,(E.o.of_le (by omega)).sub bK.o,Gr.wr (tg q) dA.o (fun b s=>by have:=E.o.2 b s;omega)⟩
end Go.Proofs.YtdhighcpmcdmmaaGreat
