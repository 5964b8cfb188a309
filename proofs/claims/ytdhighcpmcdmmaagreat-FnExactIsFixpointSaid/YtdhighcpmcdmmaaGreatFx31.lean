/- Contracts and laws towards ReadsOf, part 29 of 54. No condition. -/
import Derived.Test.YtdhighcpmcdmmaaGreatFx25
import Derived.Test.YtdhighcpmcdmmaaGreatFx30
set_option maxHeartbeats 32000000
set_option maxRecDepth 10000
set_option linter.unusedVariables false
set_option linter.unusedSimpArgs false
namespace Go.Proofs.YtdhighcpmcdmmaaGreat
open Go.RowKit
variable{d:Nat}
variable{fp fo:List Nat}{u:Value}{co:Array Value}
def gL(xs:List av)(x:av):Int:=idxOf (fun y=>decide (y=x)) xs
theorem uM{α:Type}{p:α→Bool}{xs:List α}{k:Nat}(h:k<xs.length)(q:∀j (h:j<xs.length),j<k→p xs[j]=false)(s:p xs[k]=false):∀j (h:j<xs.length),j<k+1→p xs[j]=false:=by
 intro j B E
 by_cases D:j<k
 ·exact q j B D
 ·obtain rfl:j=k:=by omega
  exact s
theorem LY(xs:List av)(x:av):gL xs x= -1∨∃k:Nat,gL xs x=k∧∃h:k<xs.length,xs[k]=x:=by
 unfold gL
 induction xs with
 |nil=>left;rfl
 |cons y H s=>
  by_cases q:y=x
  ·right
   refine⟨0,?_,by simp,q⟩;unfold idxOf;simp[q]
  ·rcases s with h|⟨k,B,D,E⟩
   ·left
    unfold idxOf;simp only[decide_eq_false q,h];simp
   ·right
    refine⟨k+1,?_,by simpa using D,by simpa using E⟩;unfold idxOf;simp only[decide_eq_false q,B];simp;omega
theorem nC(xs:List av)(o:av)(w:World)(U:SlR fp w u xs)(ho:Rd.rd fo w co.toList o):
  Qz 83 #[u,.agg co] w (.int .i64 (gL xs o)):=by
 have HX:=Kz U;obtain⟨ax,kx,rfl,aL,aN,ae⟩:=U.open;obtain⟨q,s,rfl,rfl,-,aS,aV⟩:=K7 ho;clear ho;clear U
 show Calls _ _ _ _ fun e w'=>e=.returned (.int .i64 (idxOf (fun y=>decide (y=(q,s))) xs))∧Gr w w'
 (try delta Qz);go_in;go_wp2_with fail;generalize X:(w.alloc (.cells #[.int .i64 q,.string s] 63))=B;have gB:Gr w B:=gb X;obtain⟨ah,ai⟩:=kb2 X (w.heap.size) (.int .i64 q) (.string s);clear X
 go_loopw [5] (fun Y wr=>∃k:Nat,k≤xs.length∧Ky (∀j (h:j<xs.length),j<k→decide (xs[j]=(q,s))=false)∧Ky (Gr B wr)∧Y=.int .i64 k) (fun Y _=>xs.length - (intOf Y).toNat)
 case atStart=>exact⟨0,by omega,Kz (fun j h Z=>by omega),Kz (Gr.refl _),rfl⟩
 case round=>
  obtain⟨k,hk,HN,J,rfl⟩:=hrel
  rename World=>W1
  have E:=Kz (gB.trans J.o);have y0:=ah _ J.o;have y1:=ai _ J.o
  by_cases D:k<xs.length
  ·skip
   obtain⟨b,off,rfl,hb⟩:=ae k D;obtain⟨H,K,T,-,aj,au,z0,z1,zb⟩:=Lh HX.o D E.o;have k0:(0:Int)≤(k:Int):=by omega
   have k1:(k:Int)<(xs.length:Int):=by omega
   have iw:=zI1 k (by omega);have ay:=Kz (fun h=>uM (p:=fun y=>decide (y=(q,s))) D HN.o h);clear aj au
   have O:(H=q∧K=s)∨(H≠q)∨(H=q∧K.toList≠s.toList):=
    (Classical.em (H=q)).elim (fun t0=>(Classical.em (K=s)).elim (fun t1=>.inl ⟨t0,t1⟩) (fun t1=>.inr (.inr ⟨t0,fun e=>t1 (str_inj e)⟩))) (fun t0=>.inr (.inl t0))
   rcases O with⟨rfl,rfl⟩|e|⟨rfl,e⟩
   ·have I:=Kz (iH (p:=fun y=>decide (y=(H,K))) D (by rw[←T.o];simp) HN.o)
    go_wp2_with fail
    go_region
    all_goals
     go_wp2_with fail;go_ret;exact⟨aC I.o.symm,E.o.trans gd⟩
   all_goals
    have I:=Kz (ay.o (by
     rw[←T.o];refine decide_eq_false fun h=>?_
     simp only[Prod.mk.injEq,true_and] at h
     first|exact e h.1|(rw[h] at e;exact e rfl)|exact e (congrArg ByteArray.toList h)))
    go_wp2_with fail
    go_region
    all_goals
     go_wp2_with fail;exact⟨⟨k+1,by omega,I,Kz (tg J),by go_num⟩,by simp[intOf];omega⟩
  ·obtain rfl:k=xs.length:=by omega
   have I:=Kz (gu (p:=fun y=>decide (y=(q,s))) fun j Z=>HN.o j Z Z);go_wp2_with fail;go_ret;exact⟨aC I.o.symm,E.o⟩
theorem Au(xs:List av)(o:av)(w:World)(U:SlR fp w u xs)(ho:Rd.rd fo w co.toList o):
  Qz 150 #[u,.agg co] w (.int .i64 (gL xs o)):=by
 have HX:=Kz U;obtain⟨ax,kx,rfl,aL,aN,ae⟩:=U.open;obtain⟨q,s,rfl,rfl,-,aS,aV⟩:=K7 ho;clear ho;clear U
 show Calls _ _ _ _ fun e w'=>e=.returned (.int .i64 (idxOf (fun y=>decide (y=(q,s))) xs))∧Gr w w'
 (try delta Qz);go_in;go_wp2_with fail;generalize X:(w.alloc (.cells #[.int .i64 q,.string s] 63))=B;have gB:Gr w B:=gb X;obtain⟨ah,ai⟩:=kb2 X (w.heap.size) (.int .i64 q) (.string s);clear X
 go_loopw [8] (fun Y wr=>∃k:Nat,k≤xs.length∧Ky (∀j (h:j<xs.length),j<k→decide (xs[j]=(q,s))=false)∧Ky (Gr B wr)∧Y=.int .i64 k) (fun Y _=>xs.length - (intOf Y).toNat)
 case atStart=>exact⟨0,by omega,Kz (fun j h Z=>by omega),Kz (Gr.refl _),rfl⟩
 case round=>
  obtain⟨k,hk,HN,J,rfl⟩:=hrel
  rename World=>W1
  have E:=Kz (gB.trans J.o);have y0:=ah _ J.o;have y1:=ai _ J.o
  by_cases D:k<xs.length
  ·skip
   obtain⟨b,off,rfl,hb⟩:=ae k D;obtain⟨H,K,T,-,aj,au,z0,z1,zb⟩:=Lh HX.o D E.o;have k0:(0:Int)≤(k:Int):=by omega
   have k1:(k:Int)<(xs.length:Int):=by omega
   have iw:=zI1 k (by omega);have ay:=Kz (fun h=>uM (p:=fun y=>decide (y=(q,s))) D HN.o h);clear aj au
   have O:(H=q∧K=s)∨(H≠q)∨(H=q∧K.toList≠s.toList):=
    (Classical.em (H=q)).elim (fun t0=>(Classical.em (K=s)).elim (fun t1=>.inl ⟨t0,t1⟩) (fun t1=>.inr (.inr ⟨t0,fun e=>t1 (str_inj e)⟩))) (fun t0=>.inr (.inl t0))
   rcases O with⟨rfl,rfl⟩|e|⟨rfl,e⟩
   ·have I:=Kz (iH (p:=fun y=>decide (y=(H,K))) D (by rw[←T.o];simp) HN.o)
    go_wp2_with fail
    go_region
    all_goals
     go_wp2_with fail;go_ret;exact⟨aC I.o.symm,E.o.trans gd⟩
   all_goals
    have e':=Ne.symm e
    have I:=Kz (ay.o (by
     rw[←T.o];refine decide_eq_false fun h=>?_
     simp only[Prod.mk.injEq,true_and] at h
     first|exact e h.1|(rw[h] at e;exact e rfl)|exact e (congrArg ByteArray.toList h)))
    go_wp2_with fail
    go_region
    all_goals
     go_wp2_with fail;exact⟨⟨k+1,by omega,I,Kz (tg J),by go_num⟩,by simp[intOf];omega⟩
  ·obtain rfl:k=xs.length:=by omega
   have I:=Kz (gu (p:=fun y=>decide (y=(q,s))) fun j Z=>HN.o j Z Z);go_wp2_with fail;go_ret;exact⟨aC I.o.symm,E.o⟩
theorem wH(xs:List av)(o:av)(w:World)(h:SlR fp w u xs)(q:Rd.rd fo w co.toList o):
  Qz 78 #[u,.agg co] w (.int .i64 (gL xs o)):=by
 have s:=Kz h;obtain⟨J,K,rfl,-,-,-⟩:=h.open;have B:=Kz q;obtain⟨D,E,rfl,rfl,-,H,I⟩:=K7 q;clear q;clear h;delta Qz;go_in;go_wp2_with fail;refine(Au xs (D,E) _ (s.o.gr gd) (Rd.gr B.o gd)).mono ?_;rintro e w' ⟨rfl,O,rfl⟩;go_wp2_with fail;go_ret;exact⟨rfl,gd⟩
def FL(g:af d)(r:aW d):Prop:=∀o∈mg g r,∃q∈r.2.2.2.2.1,q.1=o
theorem zM{es:List (aX d)}{o:ag}:(il es o).isSome=true↔∃q∈es,q.1=o:=by
 unfold il zI;rw[Option.isSome_map,List.find?_isSome];constructor
 ·rintro⟨q,h,s⟩;exact⟨q,h,of_decide_eq_true s⟩
 ·rintro⟨q,h,s⟩;exact⟨q,h,decide_eq_true s⟩
set_option maxRecDepth 100000 in
theorem Cj{fg fr:List Nat}{cg cr:Array Value}(g:af d)(r:aW d)(w:World)(hg:Rd.rd fg w cg.toList g)(O:Rd.rd fr w cr.toList r)(hl:aP g≤1048576)(ay:bF r≤1048576):
  Qz 272 #[.agg cg,.agg cr] w (.bool (!pB (FL g r))):=by
 have bL:=Kz hl;have aL:=Kz ay;clear hl ay;have HG:=Kz hg;obtain⟨g0,g1,bN,bV,kS,cK,cO,kT,rfl,rfl,-,kV,jN,jX,s,j4,j5⟩:=yt hg;clear hg;have HR:=Kz O;obtain⟨I,J,E,T,D,K,aN,aS,kX,aV,aZ,kZ,bg,bq,lq,rfl,rfl,-,lG,lV,l5,ku,ky,l6,kz,kE,l7,kL,kQ⟩:=KV O;clear O
 have dz:E.length≤1048576:=by
  have h1:I.size+J.size+wtL ByteArray.size E+wtL aU D+wtL aI K≤1048576:=aL.o;have h2:=bT ByteArray.size E;omega
 obtain⟨Q,hQ⟩:=nm (mg (g0,g1) (I,J,E,T,D,K));have ae:=Kz hQ;clear hQ;delta Qz;go_in;go_wp2_with fail;refine(uN (g0,g1) (I,J,E,T,D,K) _ (Rd.gr HG.o gd) (Rd.gr HR.o gd) bL.o dz).mono ?_;rintro e w' ⟨v,fq,rfl,H,hf,x1,rfl⟩;rw[←ae.o] at H;generalize hB:(((w.alloc (.cells #[.slice bN g0.length bV,.slice cK g1.length cO] 36)).alloc (.cells #[.string I,.string J,.slice aN E.length aS,.bool T,.slice aV D.length aZ,.slice bg K.length bq] 112)).ext x1)=B;have gB:Gr w B:=gb hB;obtain⟨dA,dC,dG,dL,dU,dW⟩:=kb6 hB (w.heap.size+1) (.string I) (.string J) (.slice aN E.length aS) (.bool T) (.slice aV D.length aZ) (.slice bg K.length bq);have EB:=Kz hB;clear hB;replace H:SlR fq B v Q:=by rw[←EB.o];exact H
 obtain⟨aq,kq,rfl,l8,ma,eH⟩:=H.open;have HS:=Kz H;clear H hf;go_wp2_with fail
 go_loopw [6] (fun s6 wr=>∃k:Nat,k≤Q.length∧Ky (∀o∈Q.take k,∃q∈D,q.1=o)∧Gr B wr∧s6=.int .i64 k) (fun s6 _=>Q.length - (intOf s6).toNat)
 case atStart=>exact⟨0,by omega,Kz (by simp),gd,rfl⟩
 case round=>
  obtain⟨k,hk,HA,s,rfl⟩:=hrel
  rename World=>W1
  have bB:=Kz s;have ah:=Kz (gB.trans s)
  by_cases Y:k<Q.length
  ·have fe:=Kz (fun h=>dD Y HA.o h)
   have bH:=Kz (List.getElem_mem Y);have H:=HS.o;obtain⟨b,off,rfl,hb⟩:=eH k Y;obtain⟨fu,mf,ai,Z,-⟩:=H.at Y;obtain⟨yp,hyp⟩:=nm (Q[k]);rw[←hyp] at Z;have bD:=Kz hyp;have fw:=Kz Z;obtain⟨U,X⟩:=yp;obtain⟨aj,-,fA,fK⟩:=bu (cs:=fu.toArray) U X (by simpa using Z);obtain rfl:=toL aj;have gm:∀w':World,Gr W1 w'→w'.cell? ⟨b,off+k*2,none⟩=some (.int .i64 U):=fun w' h=>h.keep (s.keep (show B.cell? ⟨b,off+k*2,none⟩=some (.int .i64 U) from by simpa[Rd.n] using ai 0 _ rfl))
   have gD:∀w':World,Gr W1 w'→w'.cell? ⟨b,off+k*2+1,none⟩=some (.string X):=fun w' h=>h.keep (s.keep (show B.cell? ⟨b,off+k*2+1,none⟩=some (.string X) from ai 1 _ rfl))
   have k0:(0:Int)≤(k:Int):=by omega
   have k1:(k:Int)<(Q.length:Int):=by omega
   have iw:=zI1 k (by omega);have y2:=dA _ s;have y3:=dC _ s;have y4:=dG _ s;have y5:=dL _ s;have y6:=dU _ s;have y7:=dW _ s;have gF:=fun(w':World) (h:Gr W1 w')=>(⟨h.keep y2,h.keep y3,h.keep y4,h.keep y5,h.keep y6,h.keep y7⟩:_∧_∧_∧_∧_∧_)
   obtain⟨R,hR⟩:=nm ((il D (U,X)).isSome);have au:=Kz hR;clear H aj ai Z hyp s hR fA fK
   go_upto_region 5 with fail
   go_cut [8] (fun sp wx=>Ez W1 R sp wx)
   case first=>
    go_region_held3 (fun w'=>Gr W1 w') (exact ga)
     (first|(go_at_call 127;refine(lQ (I,J,E,T,D,K) (U,X) _ (Rd.gr HR.o (ah.o.trans ga)) (Rd.gr fw.o (bB.o.trans ga)) aL.o).mono ?_;rintro e w' ⟨es,gH,rfl,O,gM,x3,rfl⟩;obtain⟨bb,ax⟩:∃b:Bool,b=(il D (U,X)).isSome:=⟨_,rfl⟩;change Rd.rd gH _ es.toList ((il D (U,X)).getD ng) at O;rw[←ax];have gT:=Kz ax;obtain⟨t0,t1,t2,t3,t4,t5,mh,mo,mq,rfl⟩:=eO O;clear gM O ax))
    all_goals
     go_wp2_with fail;go_meet;have hb:bb=R:=gT.o.trans au.o.symm;subst hb;exact⟨rfl,gd⟩
   case rest=>
    obtain⟨rfl,g2⟩:=hcut
    rename World=>W2
    have ik:=Kz (bB.o.trans g2);have bK:=Kz (ah.o.trans g2);clear gF y2 y3 y4 y5 y6 y7 g2 gm gD
    cases R with
    |true=>
     go_wp2_with fail;refine⟨⟨k+1,by omega,Kz (fe.o ?_),ik.o,by go_num⟩,by simp[intOf];omega⟩;rw[←bD.o];exact zM.1 au.o.symm
    |false=>
     go_wp2_with fail;go_ret
     exact⟨aa (by rw[bz (show¬FL (g0,g1) (I,J,E,T,D,K) from fun h=>by
      have h1:=h _ (by rw[←ae.o];exact bH.o);rw[←bD.o] at h1;exact absurd (au.o.trans (zM.2 h1)) (by decide))];rfl),bK.o⟩
  ·obtain rfl:k=Q.length:=by omega
   rw[List.take_length] at HA;go_wp2_with fail;go_ret;exact⟨aa (by rw[bQ (show FL (g0,g1) (I,J,E,T,D,K) from fun o ho=>HA.o o (by rw[ae.o];exact ho))];rfl),ah.o⟩
def qd(g:af d)(r:aW d):Prop:=(∀q∈r.2.2.2.2.1,q.1∈mg g r)∧zh Prod.fst r.2.2.2.2.1
set_option maxRecDepth 100000 in
theorem Bc{fg fr:List Nat}{cg cr:Array Value}(g:af d)(r:aW d)(w:World)(hg:Rd.rd fg w cg.toList g)(hr:Rd.rd fr w cr.toList r)(hl:aP g≤1048576)(aZ:bF r≤1048576):
  Qz 273 #[.agg cg,.agg cr] w (.bool (!pB (qd g r))):=by
 obtain⟨i0,hi⟩:=info_parts Tryz.nX;have HZ:=Kz hi;clear hi;have dL:=Kz hl;have HG:=Kz hg;obtain⟨g0,g1,dU,dW,l5,eH,fe,l6,rfl,rfl,-,l7,ky,kz,l8,kE,kL⟩:=yt hg;clear hg;have HR:=Kz hr;obtain⟨U,X,K,r3,s,Y,fu,fw,ma,bg,bq,mf,fA,fK,mh,rfl,rfl,-,mo,mq,mr,kQ,kS,bB,kT,kV,mH,kX,kZ⟩:=KV hr;have bL:=bB.op3;clear hr;have gm:U.size+X.size+wtL ByteArray.size K+wtL aU s+wtL aI Y≤1048576:=aZ;have gD:K.length≤1048576:=by have:=bT ByteArray.size K;omega
 have mZ:s.length≤1048576:=by have:=bT aU s;omega
 obtain⟨Q,hQ⟩:=nm (mg (g0,g1) (U,X,K,r3,s,Y));have ah:=Kz hQ;clear hQ hl aZ gm;delta Qz;go_in;go_wp2_with fail;refine(uN (g0,g1) (U,X,K,r3,s,Y) _ (Rd.gr HG.o gd) (Rd.gr HR.o gd) dL.o gD).mono ?_;rintro e w' ⟨v,fq,rfl,hs,hf,x1,rfl⟩;rw[←ah.o] at hs;generalize hB:(((w.alloc (.cells #[.slice dU g0.length dW,.slice eH g1.length fe] 36)).alloc (.cells #[.string U,.string X,.slice fu K.length fw,.bool r3,.slice bg s.length bq,.slice fA Y.length fK] 112)).ext x1)=B;have gB:Gr w B:=gb hB;have gF:=kb hB (w.heap.size+1) 4 (.slice bg s.length bq);have sB:B.heap.size=w.heap.size+2+x1.objs.size:=szB hB;have EB:=Kz hB;clear hB;replace hs:SlR fq B v Q:=by rw[←EB.o];exact hs
 obtain⟨aq,kq,rfl,nz,nM,nO⟩:=hs.open;have HS:=Kz hs;clear hs hf;go_wp2_with fail
 go_loopw [7,6] (fun s7 s6 wr=>∃(k:Nat) (fps:List (List Nat)),k≤s.length∧Ky (fps.flatten=[])∧Ky (∀q∈s.take k,q.1∈Q)∧Ky (zh Prod.fst (s.take k))∧Gr B wr∧bE (α:=ag) B 132 wr s6 fps ((s.take k).map Prod.fst)∧s7=.int .i64 k) (fun s7 _ _=>s.length - (intOf s7).toNat)
 case atStart=>exact⟨0,[],by omega,Kz rfl,Kz (by simp),Kz (by intro i h;simp at h),gd,bE.kF (α:=ag) (w0:=B) 132 (Nat.le_refl _) (by omega),rfl⟩
 case round=>
  obtain⟨k,fps,hk,HF,HA,HD,I,hown,rfl⟩:=hrel
  rename World=>W1
  have gH:=Kz I;have bD:=Kz hown;obtain⟨L,hL⟩:=nm ((s.take k).map Prod.fst);have gM:L.length=k:=by rw[hL];simp;omega
  have nP:L.length≤1048576:=by omega
  clear gM;obtain⟨ra,rc,ae⟩:=hown.form;rw[←hL] at ae;subst ae;have H:=Kz hL;have y6:=gF _ I;have ai:=gB.trans I;have aj:=Kz ai;clear hown hL
  by_cases J:k<s.length
  ·have gT:=Kz (fun h=>dD J HA.o h)
   have ik:=Kz (xx J HD.o);have jN:=Kz (Aa (f:=Prod.fst) (xs:=s) J);have bN:=Kz (List.getElem_mem J);obtain⟨nS,au,-⟩:=bD.o.fresh (by rw[←H.o];unfold bn;omega) (by rw[HF.o];exact aY.nil _);rw[←H.o] at au;have HN:=Kz au;have jX:=Kz (HS.o.gr I);clear au I;obtain⟨b,off,rfl,nZ⟩:=bL k J;obtain⟨D,E,oh,oo,oq,ow,oz,oG,oH,lq,lG,lV,oK,T,oL,ax,ay,bV,cK,cO,dz,dA,dC,dG,j5,ku,oN,oV,oW,o9,pG,pM,pR,pV,p9,qo⟩:=KY bB J ai;have k0:(0:Int)≤(k:Int):=by omega
   have k1:(k:Int)<(s.length:Int):=by omega
   have iw:=zI1 k (by omega);have aL:=Kz (fun W=>bO (w:=W) D E ax ay)
   have j4:=Kz (show(s.take (k+1)).map Prod.fst=L++[(D,E)] by
    rw[List.take_succ_eq_append_getElem J,List.map_append,H.o,←T.o];rfl)
   clear ai ax ay bV cK cO dz dA dC dG;go_wp2_with fail;generalize hC:(W1.alloc (.cells #[.int .i64 D,.string E] 132))=C;have gC:Gr W1 C:=gb hC;have VC:=Kz (show az C W1.heap.size 132 [.int .i64 D,.string E] from by rw[←hC];exact az.new rfl);have bH:=Kz gC;clear hC gC y6;refine(qc Q (D,E) _ (jX.o.gr bH.o) (aL.o _)).mono ?_;rintro e w' ⟨rfl,x2,rfl⟩;have aN:Gr C (C.ext x2):=gd;have Z:=VC.o.gr aN;obtain⟨u0,u1⟩:=Z.c2;have zu:=blk u0;have O:=Kz (bH.o.trans aN);clear Z aN
   by_cases hp:(D,E)∈Q
   ·rw[bQ hp]
    have HP:=Kz hp;clear hp;go_wp2_with fail;refine(qc L (D,E) _ (HN.o.gr (tg O)) (aL.o _)).mono ?_;rintro e w' ⟨rfl,x3,rfl⟩
    by_cases hm:(D,E)∈L
    ·rw[bQ hm]
     have HM:=Kz hm;clear hm;go_wp2_with fail;go_ret;exact⟨aa (by rw[bz (show¬qd (g0,g1) (U,X,K,r3,s,Y) from fun h=>jN.o (by rw[←T.o,←H.o];exact HM.o) h.2)];rfl),aj.o.trans (tg O)⟩
    ·rw[bz hm]
     have HM:=Kz hm;clear hm;have aS:Gr (C.ext x2) ((C.ext x2).ext x3):=gd;have Z:=(VC.o.gr (gd:Gr C (C.ext x2))).gr aS;have aV:=Kz (O.o.trans aS);obtain⟨W4,bK⟩:=nm ((C.ext x2).ext x3);rw[←bK] at Z aV ⊢;replace u0:=Z.c 0;replace u1:=Z.c 1;replace zu:=blk u0;clear Z aS bK
     go_wp2_with (first|(at_builtin;refine bP (α:=ag) (w0:=B) ((gH.o.trans aV.o).trans gd) rfl _ _ 129 rfl 132 i0 _ _ Tryz.underlying129 HZ.o.1 HZ.o.2.1 HZ.o.2.2.1 HZ.o.2.2.2 rfl _ fps _ (by rfl) (bD.o.gr (tg aV)) _ [[]] [(D,E)] (by rfl) (eT.one (by simp) (aL.o _)) (fun b _=>by simp) (by rw[←H.o];unfold maxLen;simp;omega) (by rw[←H.o];simp;omega) ?_;intro v3 w3 h1 h2 h3 h4;replace h1:=Kz h1;replace h4:=Kz h4;clear h2 h3))
     refine⟨⟨k+1,fps++[[]],by omega,Kz (by rw[List.flatten_append,HF.o];rfl),Kz (gT.o (by rw[←T.o];exact HP.o)),Kz (ik.o (by rw[←T.o,←H.o];exact HM.o)),h4.o,?_,by go_num⟩,by simp[intOf];omega⟩;rw[j4.o,H.o];exact h1.o
   ·rw[bz hp]
    have HP:=Kz hp;clear hp;go_wp2_with fail;go_ret;exact⟨aa (by rw[bz (show¬qd (g0,g1) (U,X,K,r3,s,Y) from fun h=>HP.o (by have h1:=h.1 _ bN.o;rw[←T.o,←ah.o] at h1;exact h1))];rfl),aj.o.trans (tg O)⟩
  ·obtain rfl:k=s.length:=by omega
   rw[List.take_length] at HA HD;go_wp2_with fail;go_ret;exact⟨aa (by rw[bQ (show qd (g0,g1) (U,X,K,r3,s,Y) from⟨fun q hq=>by rw[←ah.o];exact HA.o q hq,HD.o⟩)];rfl),aj.o⟩
end Go.Proofs.YtdhighcpmcdmmaaGreat
