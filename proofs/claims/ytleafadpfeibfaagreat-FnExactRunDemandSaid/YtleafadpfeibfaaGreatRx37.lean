/- Contracts and laws towards ReadsOf, part 40 of 54. No condition. -/
import Derived.Test.YtleafadpfeibfaaGreatRx36
set_option maxHeartbeats 32000000
set_option maxRecDepth 10000
set_option linter.unusedVariables false
set_option linter.unusedSimpArgs false
namespace Go.Proofs.YtleafadpfeibfaaGreat
open Go.RowKit
open _root_.List (map_cons map_nil sum_cons sum_nil)
open _root_.Int (toNat_natCast)
open _root_.Option (bind_some)
variable{d:Nat}
variable{R1:Res}{v:Int}{t:List aT}
section
variable{w0:World}{g:af d}{t:List aT}{L:List av}{ag0:Option Addr}{kg0:Nat}{ag1:Option Addr}{kg1:Nat}{at_:Option Addr}{kt:Nat}{aL:Option Addr}{kL:Nat}{bz bv bs br f:Nat}
theorem CL{F:Eng→Res}{q1:Int}:((R1.bind fun p=>(F p.2).bind fun q=>some (opV q1 p.1 q.1,q.2)).map (·.2))=((R1.map (·.2)).bind F).map (·.2):=by
 cases R1 with
 |none=>rfl
 |some p=>
  show((F p.2).bind fun q=>some (opV q1 p.1 q.1,q.2)).map (·.2)=(F p.2).map (·.2)
  cases F p.2<;>rfl
theorem Hf{F:Eng→Res}{q1 v2:Int}(h1:∀p,R1=some p→p.1=v)(I:∀p,(R1.map (·.2)).bind F=some p→p.1=v2):∀p,(R1.bind fun p=>(F p.2).bind fun q=>some (opV q1 p.1 q.1,q.2))=some p→p.1=opV q1 v v2:=by
 intro p D
 cases R1 with
 |none=>cases D
 |some B=>
  obtain⟨q,J,h⟩:=Option.bind_eq_some_iff.1 (show((F B.2).bind fun q=>some (opV q1 B.1 q.1,q.2))=some p from D);obtain rfl:=Option.some.inj h;rw[←h1 B rfl,←I q J]
theorem Gc{F H:Eng→Res}(h1:∀p,R1=some p→p.1=v)(hv:v≠0):(R1.bind fun p=>if p.1=0 then F p.2 else H p.2)=(R1.map (·.2)).bind H:=by
 cases R1 with
 |none=>rfl
 |some p=>
  have:=h1 p rfl
  show(if p.1=0 then F p.2 else H p.2)=H p.2
  rw[if_neg (by rw[this];exact hv)]
theorem Jn{F H:Eng→Res}(h1:∀p,R1=some p→p.1=v)(hv:v=0):(R1.bind fun p=>if p.1=0 then F p.2 else H p.2)=(R1.map (·.2)).bind F:=by
 cases R1 with
 |none=>rfl
 |some p=>
  have:=h1 p rfl
  show(if p.1=0 then F p.2 else H p.2)=F p.2
  rw[if_pos (by rw[this];exact hv)]
theorem GV{c:Int}(h:0≤c∧c<t.length):(KI t c).length=1:=by
 obtain⟨k,rfl⟩:∃k:Nat,c=k:=⟨c.toNat,by omega⟩;rw[wo (by omega)];rfl
theorem EH:∀(L:List Int) (h:∀c∈L,0≤c∧c<t.length),(L.flatMap (KI t)).length=L.length
 |[],_=>rfl
 |c::L,h=>by
  rw[List.flatMap_cons,List.length_append,GV (h c (by simp)),EH L (fun z hz=>h z (List.mem_cons_of_mem _ hz)),List.length_cons];omega
theorem CF{g:af d}(h:fP g t=true){node m:Nat}(hn:node<t.length)(hm:t[node].2.2.2.2.2.length=m):(iB t (node:Int)).length=m+1:=by
 obtain⟨h1,r,B,D,q⟩:=qA h hn;rw[Bg hn,EH _ (fun c hc=>?_),List.length_cons,hm];rcases List.mem_cons.1 hc with rfl|hc
 ·exact⟨by omega,by omega⟩
 ·exact q c hc
abbrev Bu(W:World)(b o:Nat)(h q B D I J K:Value):Prop:=
 W.cell? ⟨b,o,none⟩=some h∧W.cell? ⟨b,o+1,none⟩=some q∧W.cell? ⟨b,o+2,none⟩=some B∧W.cell? ⟨b,o+3,none⟩=some D∧W.cell? ⟨b,o+4,none⟩=some I∧W.cell? ⟨b,o+5,none⟩=some J∧W.cell? ⟨b,o+6,none⟩=some K
theorem Bu.mv{W W':World}{b o:Nat}{q B D I J K O:Value}{fp:List Nat}(h:Bu W b o q B D I J K O)(k:Wr fp W W')(hb:b∉fp):Bu W' b o q B D I J K O:=
 ⟨k.aO h.1 hb,k.aO h.2.1 hb,k.aO h.2.2.1 hb,k.aO h.2.2.2.1 hb,k.aO h.2.2.2.2.1 hb,k.aO h.2.2.2.2.2.1 hb,k.aO h.2.2.2.2.2.2 hb⟩
def Gm(B:World)(Y:av)(s:Value)(wr:World):Prop:=
 ∃b,s=.pointer (some ⟨b,0,none⟩)∧Gr B wr∧az wr b 45 [.int .i64 Y.1,.string Y.2]∧B.heap.size≤b∧(Lit.int .i64 Y.1).wf=true∧Y.2.size≤maxLen
theorem JV(E:EnvD w0 g t L ag0 kg0 ag1 kg1 at_ kt aL kL){G:Eng→Int→Int→Res}{node by_ m n:Nat}(hG:Fu w0 (.slice ag0 g.1.length kg0) (.slice ag1 g.2.length kg1) (.slice at_ t.length kt) (.slice aL L.length kL) L.length bz bv bs br f G)(HV:KpG L G)(HZ:by_<L.length)(bq:node<t.length)(hm:t[node].2.2.2.2.2.length=m)
  (hE:EvS w0 g t L ag0 kg0 ag1 kg1 at_ kt aL kL bz bv bs br f G node by_ m n):EvS w0 g t L ag0 kg0 ag1 kg1 at_ kt aL kL bz bv bs br f G node by_ m (n+1):=by
 intro x fx cs fp o W hx H5 hS hN hb
 have HE:=Kz E;have HG:=Kz hG;have gD:=Kz hE;have ah:=Kz H5;have yu:=Kz HV;obtain⟨q0,q1,q2,q3,q4,q5,q6⟩:=(x:aA n);obtain⟨MS,Md,rfl,y5,Me,K3,K4,Mf,Mg,K6,y7⟩:=aF q0 q1 q2 q3 q4 q5 q6 (show Rd.rd (α:=aA n) fx W cs.toList _ from hx);obtain⟨gV,ai,rfl,-,-,-⟩:=y7.open;have HX:=Kz hx;have gX:=Kz y7;have y9:=Kz (And.intro K3 (And.intro K4 K6));have bB:=Kz (show∀c∈Md,c∈fx from fun c hc=>by rw[y5];simpa using hc)
 have La:W.heap.size∉fp:=by
  obtain⟨s9,c9,h9,-⟩:=hS.core;exact fun hm=>Nat.lt_irrefl _ (h9.lt _ hm)
 have vD:=Kz La;have I:=Kz (And.intro hN.1 hN.2);have MO:1≤q0∧q0≤8:=hN.1.1;have HB:=Kz hb;clear E hG hE H5 HV hx y7 Me K3 K4 Mf Mg K6 y5 La hb hN
 cases o with
 |none=>
  obtain⟨s,hc⟩:=hS;have HC:=Kz hc;obtain⟨y0,y1,y2,y3,y8⟩:=hc.fixed;have zy:=blk y0;clear hc
  show Calls _ _ _ _ (Got _ fp W none)
  go_in;go_wp2_with fail;go_ret;exact SpS.vI (by decide) (HC.o.grow gd) (MvW.dm gd)
 |some s=>
  have HC:=Kz hS.1;have aZ:=Kz hS.2;have Li:=(HB.o s rfl).1;have sO:=(HB.o s rfl).2;have ae:=Kz Li;obtain⟨y0,y1,y2,y3,y8⟩:=hS.1.fixed;have zy:=blk y0;have HY:=Kz (And.intro y0 (And.intro y1 (And.intro y2 y3)));rw[oV] at sO;have aj:=Kz sO
  show Calls _ _ _ _ (Got _ fp W (eX g t L G node by_ (n+1) ((q0,q1,q2,q3,q4,q5,q6):aA n) s))
  clear hS Li sO;rcases(show q0=1∨q0=2∨q0=3∨q0=4∨q0=5∨q0=6∨q0=7∨q0=8 by omega) with h|h|h|h|h|h|h|h
  ·subst h
   rw[F9];go_in;go_wp2_with fail;go_ret;exact SpS.nZ y9.o.1 (HC.o.grow gd) aZ.o (MvW.dm gd)
  ·subst h
   rw[GM];obtain⟨w,hw⟩:=nm (w0);subst hw;obtain⟨ft,vt,Lj,Lm⟩:=HE.o.ht;obtain rfl:Value.slice at_ t.length kt=vt:=by simpa using Lj
   obtain⟨MU,MV,uz,-,-,L8⟩:=Lm.open;injection uz with uz _ L9;subst uz;subst L9;have Ls:=bq;have za:=HC.o.gr;obtain⟨b,off,rfl,vF⟩:=L8 node Ls;obtain⟨Mh,MW,ik,vG,-⟩:=Lm.at Ls;obtain⟨yp,hyp⟩:=nm (t[node]);rw[←hyp] at vG;have zb:=Kz hyp;have Mi:=Kz vG;obtain⟨p0,p1,p2,p3,p4,p5⟩:=yp;obtain⟨MX,MZ,ze,-,iw,X,vL,Lv,zf,Lx⟩:=bA (cs:=Mh.toArray) p0 p1 p2 p3 p4 p5 (by simpa using vG);obtain rfl:=toL ze;obtain⟨M0,M3,rfl,MP,MQ,MR⟩:=Lx.open;have Mj:=za.keep (show w.cell? ⟨b,off+node*6,none⟩=some (.int .i64 p0) from by simpa[Rd.n] using ik 0 _ rfl);replace ik:∀j v,_→w.cell? ⟨b,off+node*6+j,none⟩=some v:=ik;have M4:=za.keep (ik 3 _ rfl);have M5:=blk Mj;clear ze ik vG hyp;have Ma:=Kz (show zk t node=p3 by unfold zk;rw[gG bq,←zb.o]);have Mk:=Kz Lv;have i0:(0:Int)≤(node:Int):=by omega
   have i1:(node:Int)<(t.length:Int):=by omega
   clear iw X vL Lv zf Lx za Lj;go_in;go_wp2_with fail;go_ret;rw[Ma.o];exact SpS.nZ Mk.o (HC.o.grow gd) aZ.o (MvW.dm gd)
  ·subst h
   rw[GH];obtain⟨Y,hY⟩:=nm ((KF t (node:Int) (q2,q5)).getD iN);obtain⟨KX,vO⟩:=nm (gL L Y);obtain⟨kr,q⟩:=nm (G s KX by_);rw[←hY,←vO,←q];have Ml:=Kz hY;have Mm:=Kz vO;have ay:=Kz q;have Mo:=Kz (show KX<L.length by rw[vO];exact(kS _ _).1);clear hY vO q;go_in;go_wp2_with fail;obtain⟨B,Z⟩:=nm (W.alloc (.cells #[.int .i64 3,.int .i64 q1,.int .i64 q2,.int .i64 q3,.string q4,.string q5,.slice gV q6.length ai] 165));rw[←Z];have gB:Gr W B:=by rw[Z];exact gd
   have VB:=Kz (show az B W.heap.size 165 [.int .i64 3,.int .i64 q1,.int .i64 q2,.int .i64 q3,.string q4,.string q5,.slice gV q6.length ai] by rw[Z];exact az.new rfl);have O:=Kz gB;have x2:B.cell? ⟨W.heap.size,2,none⟩=some (.int .i64 q2):=VB.o.c 2;have x5:B.cell? ⟨W.heap.size,5,none⟩=some (.string q5):=VB.o.c 5;have u0:=gB.keep y0;have u1:=gB.keep y1;have u2:=gB.keep y2;have zx:=blk x2;have k0:=fun(w':World) (h:Gr B w')=>h.keep u0
   have k1:=fun(w':World) (h:Gr B w')=>h.keep u1
   have k2:=fun(w':World) (h:Gr B w')=>h.keep u2
   have k3:=fun(w':World) (h:Gr B w')=>h.keep x2
   have k4:=fun(w':World) (h:Gr B w')=>h.keep x5
   clear Z gB y0 y1 y2 y3 y8 zy
   go_cut [9] (fun s9 wr=>Gm B Y s9 wr)
   case first=>
    obtain⟨fg,hg⟩:=HE.o.hg;obtain⟨ft,ht⟩:=HE.o.ht;have Mq:=Kz hg;have Mr:=Kz ht;clear hg ht
    go_region_held3 (fun w'=>Gr B w') (exact ga)
     (first|(go_at_call 165;refine(yY g t node (q2,q5) _ (Rd.gr Mq.o ((HC.o.gr.trans O.o).trans gd)) (Rd.gr Mr.o ((HC.o.gr.trans O.o).trans gd)) (bO q2 q5 y9.o.2.1 y9.o.2.2) bq).mono ?_;rintro e w' ⟨es,fq,rfl,hr,y5,z9,rfl⟩;obtain⟨p0,p1,hyp,rfl,-,iw,X⟩:=K7 (x:=(KF t (node:Int) (q2,q5)).getD iN) hr;have zb:=Kz hyp;have Mi:=Lt hyp hr;clear hr hyp;obtain⟨bb,vF⟩:∃b:Bool,b=(KF t (node:Int) (q2,q5)).isSome:=⟨_,rfl⟩;rw[←vF];have M6:=Kz vF;clear vF))
    all_goals
     go_wp2_with fail;go_meet;have Ms:Y=(p0,p1):=Ml.o.trans zb.o.symm;rw[Ms]
     first
      |exact⟨_,rfl,gd,az.new (by simp),by simp,iw,X⟩
      |exact⟨_,rfl,gd,(az.new (A:=B) rfl).gr gd,Nat.le_refl _,iw,X⟩
      |exact⟨_,rfl,gd,(az.new (by simp)).gr gd,by simp,iw,X⟩
   case rest=>
    obtain⟨b9,rfl,g9,v9,LA,zg,zl⟩:=hcut
    rename World=>D
    obtain⟨p0,p1⟩:=Y;have LB:=Kz (And.intro zg zl);have vR:=Kz (O.o.trans g9);obtain⟨c0,c1⟩:=v9.c2;have Mt:=Kz ((show SpG w0 g t L ag0 kg0 ag1 kg1 at_ kt aL kL bz bv bs br f fp (some s) W from⟨HC.o,aZ.o⟩).grow vR.o)
    have zn:b9∉fp:=fun hm=>by
     have h1:=HC.o.lt b9 hm;have h2:=O.o.size;omega
    have LC:=Kz zn;have d3:D.cell? ⟨bz,3,none⟩=some (.slice aL L.length kL):=vR.o.keep HY.o.2.2.2;have M7:=fun(w':World) (h:Wr fp D w')=>(⟨h.aO c0 LC.o,h.aO c1 LC.o⟩:_∧_)
    have Mv:=Kz (show∀s',some s=some s'→s'.busy by_∧(s'.reads.getD (by_:Int).toNat []).length<2000 by
     intro s' bH
     obtain rfl:=Option.some.inj bH;have h9:=aj.o;exact⟨ae.o.1,by simp only[toNat_natCast];omega⟩)
    clear k0 k1 k2 k3 k4 x2 x5 u0 u1 u2 zx g9 v9 LA zg zl zn;go_wp2_with fail;refine eB (fun w'=>Wr fp D w'∧w'.cell? ⟨bz,3,none⟩=some (.slice aL L.length kL)) 9 (by kernel_rfl) (⟨(gd:Gr D D.drew).eF _,(gd:Gr D D.drew).keep d3⟩) (fun hU=>?_);refine aN 0 ?_;refine aN 1 ?_;refine aN 5 ?_;refine aN 7 ?_;refine aN 2 ?_;refine aN 3 ?_;refine aN 4 ?_;refine dw [6] ?_;refine(bf.cons rfl (fun K hK=>?_) bf.nil);go_simp
    go_at_call 38
    obtain⟨fl,hl⟩:=HE.o.hL;refine(nC L (p0,p1) _ (hl.gr ((HC.o.gr.trans vR.o).trans gd)) (bZ p0 p1 LB.o.1 LB.o.2)).mono ?_;rw[←Mm.o];rintro e w' ⟨rfl,z2,rfl⟩;refine hK.out _ _ ⟨(gd:Gr D (D.drew.ext z2)).eF _,(gd:Gr D (D.drew.ext z2)).keep d3⟩ (fun Mw=>?_);clear hK K
    try simp only[Act.put,uq1,uq2,uq3]
    refine dw [8] ?_
    refine(bf.cons rfl (fun K hK=>?_) bf.nil);go_simp
    go_at_call 70
    refine(HG.o fp (some s) _ KX by_ (Mt.o.grow gd) Mo.o (.inr ⟨by have:=HZ;omega,Mv.o⟩)).mono ?_;rintro e w4 T;have ak:=Kz (T.lift (W:=W) (MvW.dm (tg vR)) ay.o);obtain⟨v4,f4,rfl,Mx,LD,zf,LF⟩:=T;obtain⟨s4,c4,LG,-⟩:=LD.core;have e3:=LG.fixed.2.2.2.1;have LH:Wr fp D w4:=((gd:Gr D (D.drew.ext z2)).eF _).trans LF.wr;have MB:=Kz LH;clear Mx LD zf LF LG LH;refine hK.out _ _ ⟨MB.o,e3⟩ (fun MC=>?_);clear hK K
    try simp only[Act.put,uq1,uq2,uq3]
    refine dw [9] ?_
    refine bf.last rfl (fun K hK=>?_)
    go_simp;refine hK.out _ _ ?_;clear hK K
    try simp only[Act.put,uq1,uq2,uq3]
    refine fF (by kernel_rfl) ?_ _
    skip;go_wp2_with fail;go_ret;exact ak.o
  ·subst h
   obtain⟨U,V,rfl⟩:=I.o.1.two rfl;obtain⟨cb,co,c0,c1,c2,c3,c4,c5,c6,cf,cq,cm,cr,cs,bL,ku,ky,lq,oH,oL,o5⟩:=kZ (xs:=[U,V]) gX.o (k:=0) (by simp);subst cq;obtain⟨eb,eo,e0,e1,e2,e3,e4,e5,e6,ef,eq,em,er,es,bR,bX,cB,cK,cO,dB,dS⟩:=kZ (xs:=[U,V]) gX.o (k:=1) (by simp)
   obtain⟨rfl,rfl⟩:cb=eb∧co=eo:=by
    injection eq with h;injection h with h1 h2;exact⟨h1,h2⟩
   rw[Nat.one_mul] at bR bX cB cK cO dB dS;have LJ:=Kz (show Bu W cb (co+7) e0 e1 e2 e3 e4 e5 e6 from⟨bR,bX,cB,cK,cO,dB,dS⟩);have LK:=Kz (show Rd.rd ef W [e0,e1,e2,e3,e4,e5,e6] V from er);have LM:=Kz (fun c (hc:c∈ef)=>bB.o c (es c hc));have He:=Kz (show(s.reads.getD by_ []).length+cZ n U+cZ n V≤2000 by have h9:=aj.o;simp only[map_cons,map_nil,sum_cons,sum_nil] at h9;omega);clear bR bX cB cK cO dB dS er es em eq
   -- the first argument U (cells c..), the others' facts in HOTH; 4 the kind, 2 the number
   obtain⟨R1,au⟩:=nm (eX g t L G node by_ n U s);obtain⟨kr,q⟩:=nm (eX g t L G node by_ (n+1) ((4,q1,q2,q3,q4,q5,[U,V]):aA n) s);rw[←q];rw[Gz,←au] at q;have HR:=Kz q;have zo:=Kz au;have vX:=Kz (fun p (h:R1=some p)=>lG yu.o ae.o (au.symm.trans h));have zq:=Kz (show Rd.rd cf W [c0,c1,c2,c3,c4,c5,c6] U from cr);have zu:=Kz (fun c (hc:c∈cf)=>bB.o c (cs c hc));have qb:cb∉fp:=ah.o _ (bB.o _ cm);have dV:=Kz qb;have gT:=Kz (show(s.reads.getD by_ []).length+cZ n U≤2000 by have h9:=aj.o;simp only[map_cons,map_nil,sum_cons,sum_nil] at h9;omega);rw[Nat.zero_mul,Nat.add_zero] at bL ku ky lq oH oL o5;have q8:=blk bL;have zH:=Kz q8;clear au q cr cs cm qb;go_in;go_wp2_with fail;obtain⟨B,Z⟩:=nm (W.alloc (.cells #[.int .i64 4,.int .i64 q1,.int .i64 q2,.int .i64 q3,.string q4,.string q5,.slice (some ⟨cb,co,none⟩) 2 ai] 165));rw[←Z];have gB:Gr W B:=by rw[Z];exact gd
   have VB:=Kz (show az B W.heap.size 165 [.int .i64 4,.int .i64 q1,.int .i64 q2,.int .i64 q3,.string q4,.string q5,.slice (some ⟨cb,co,none⟩) 2 ai] by rw[Z];exact az.new rfl);have O:=Kz gB;clear Z gB bL ku ky lq oH oL o5 q8 y0 y1 y2 y3 y8 zy;refine(gD.o U cf #[c0,c1,c2,c3,c4,c5,c6] fp (some s) B (Rd.gr zq.o O.o) (ah.o.sub zu.o) ((show SpG w0 g t L ag0 kg0 ag1 kg1 at_ kt aL kL bz bv bs br f fp (some s) W from⟨HC.o,aZ.o⟩).grow O.o) (I.o.2 U (by simp)) (fun s1 h1=>by obtain rfl:=Option.some.inj h1;exact⟨ae.o,gT.o⟩)).mono ?_;rintro e2 W2 ⟨v,f1,rfl,hv,fe,X,ax⟩;rw[bind_some,←zo.o] at fe X;have wF:=Kz fe;have wL:=Kz X;have J:=Kz ((MvW.dm O.o).trans ax);have zL:=Kz (J.o.o zH.o dV.o);have q9:=Kz (ax.row VB.o vD.o);have ve:=Kz (ax.o VB.o.lt vD.o);have x1:W2.cell? ⟨W.heap.size,1,none⟩=some (.int .i64 q1):=q9.o.c 1;have x6:W2.cell? ⟨W.heap.size,6,none⟩=some (.slice (some ⟨cb,co,none⟩) 2 ai):=q9.o.c 6;have zx:=blk x1;clear fe X ax hv;obtain⟨z0,z1,z2,z3,z4,z5,z6⟩:=LJ.o.mv J.o.wr dV.o;have M8:=fun(w':World) (h:Wr f1 W2 w')=>(⟨h.aO x1 ve.o,h.aO x6 ve.o⟩:_∧_)
   have ke:=fun(w':World) (h:Wr f1 W2 w')=>(LJ.o.mv J.o.wr dV.o).mv h zL.o
   have fu:=Kz (show∀s',R1.map (·.2)=some s'→s'.on L.length by_∧(s'.reads.getD by_ []).length+cZ n V≤2000 by
    intro s' bH
    obtain⟨p,hp,rfl⟩:=Option.map_eq_some_iff.1 bH;have k1:=vX.o p hp;refine⟨k1.on ae.o,?_⟩;have k2:=k1.room ae.o.1;have k3:=He.o;simp only[toNat_natCast] at k2;omega)
   go_wp2_with fail;refine eB (fun w'=>Wr f1 W2 w') 12 (by kernel_rfl) ((gd:Gr W2 W2.drew).eF _) (fun hU=>?_);refine aN 0 ?_;refine aN 2 ?_;refine aN 3 ?_;refine aN 4 ?_;refine aN 8 ?_;refine aN 9 ?_;refine aN 1 ?_;refine aN 5 ?_;refine aN 6 ?_;refine aN 7 ?_;refine dw [10] ?_;refine(bf.cons rfl (fun K hK=>?_) bf.nil);go_simp
   go_at_call 130
   refine(gD.o V ef #[e0,e1,e2,e3,e4,e5,e6] f1 (R1.map (·.2)) _ (Rd.gr (J.o.rd LK.o (ah.o.sub LM.o)) gd) (J.o.apart (ah.o.sub LM.o) (Rd.lt LK.o)) (wF.o.grow gd) (I.o.2 V (by simp)) fu.o).mono ?_;rintro e9 W3 ⟨v2,f2,rfl,ME,LP,vL,LQ⟩;have MF:=Kz LP;have MG:=Kz vL;have zO:=Kz ((MvW.dm gd).trans LQ:MvW f1 W2 f2 W3);clear LP vL LQ ME;refine hK.out _ _ zO.o.wr (fun Mw=>?_);clear hK K
   try simp only[Act.put,uq1,uq2,uq3]
   refine dw [11] ?_
   refine(bf.cons rfl (fun K hK=>?_) bf.nil);go_simp
   go_at_call 166
   refine(CV q1 v v2 _).mono ?_;rintro e9 w9 ⟨rfl,x9,rfl⟩;refine hK.out _ _ (zO.o.wr.gr gd) (fun MC=>?_);clear hK K
   try simp only[Act.put,uq1,uq2,uq3]
   refine dw [12] ?_
   refine bf.last rfl (fun K hK=>?_)
   go_simp;refine hK.out _ _ ?_;clear hK K
   try simp only[Act.put,uq1,uq2,uq3]
   refine fF (by kernel_rfl) ?_ _
   skip;go_wp2_with fail;go_ret;rw[HR.o];refine⟨opV q1 v v2,f2,rfl,Gw _ _ _,?_,Hf wL.o MG.o,J.o.trans (zO.o.gr gd)⟩;rw[CL];exact MF.o.grow gd
  ·subst h
   obtain⟨U,V,xc,rfl⟩:=I.o.1.three rfl;obtain⟨cb,co,c0,c1,c2,c3,c4,c5,c6,cf,cq,cm,cr,cs,bL,ku,ky,lq,oH,oL,o5⟩:=kZ (xs:=[U,V,xc]) gX.o (k:=0) (by simp);subst cq;obtain⟨eb,eo,e0,e1,e2,e3,e4,e5,e6,ef,eq,em,er,es,bR,bX,cB,cK,cO,dB,dS⟩:=kZ (xs:=[U,V,xc]) gX.o (k:=1) (by simp)
   obtain⟨rfl,rfl⟩:cb=eb∧co=eo:=by
    injection eq with h;injection h with h1 h2;exact⟨h1,h2⟩
   obtain⟨ub,uo,u0,u1,u2,u3,u4,u5,u6,uf,uq,MH,ur,us,z8,A7,BM,EB,E5,FX,F4⟩:=kZ (xs:=[U,V,xc]) gX.o (k:=2) (by simp)
   obtain⟨rfl,rfl⟩:cb=ub∧co=uo:=by
    injection uq with h;injection h with h1 h2;exact⟨h1,h2⟩
   rw[Nat.one_mul] at bR bX cB cK cO dB dS;have MI:=Kz (show Bu W cb (co+7) e0 e1 e2 e3 e4 e5 e6 from⟨bR,bX,cB,cK,cO,dB,dS⟩);have LU:=Kz (show Rd.rd ef W [e0,e1,e2,e3,e4,e5,e6] V from er);have LV:=Kz (fun c (hc:c∈ef)=>bB.o c (es c hc));have MJ:=Kz (show(s.reads.getD by_ []).length+cZ n U+cZ n V≤2000 by have h9:=aj.o;simp only[map_cons,map_nil,sum_cons,sum_nil] at h9;omega);clear bR bX cB cK cO dB dS er es em eq;rw[show 2*7=14 from rfl] at z8 A7 BM EB E5 FX F4;have MK:=Kz (show Bu W cb (co+14) u0 u1 u2 u3 u4 u5 u6 from⟨z8,A7,BM,EB,E5,FX,F4⟩);have LW:=Kz (show Rd.rd uf W [u0,u1,u2,u3,u4,u5,u6] xc from ur);have LX:=Kz (fun c (hc:c∈uf)=>bB.o c (us c hc));have ML:=Kz (show(s.reads.getD by_ []).length+cZ n U+cZ n xc≤2000 by have h9:=aj.o;simp only[map_cons,map_nil,sum_cons,sum_nil] at h9;omega);clear z8 A7 BM EB E5 FX F4 ur us MH uq
   -- the first argument U (cells c..), the others' facts in HOTH; 5 the kind, 3 the number
   obtain⟨R1,au⟩:=nm (eX g t L G node by_ n U s);obtain⟨kr,q⟩:=nm (eX g t L G node by_ (n+1) ((5,q1,q2,q3,q4,q5,[U,V,xc]):aA n) s);rw[←q];rw[Gh,←au] at q;have HR:=Kz q;have zo:=Kz au;have vX:=Kz (fun p (h:R1=some p)=>lG yu.o ae.o (au.symm.trans h));have zq:=Kz (show Rd.rd cf W [c0,c1,c2,c3,c4,c5,c6] U from cr);have zu:=Kz (fun c (hc:c∈cf)=>bB.o c (cs c hc));have qb:cb∉fp:=ah.o _ (bB.o _ cm);have dV:=Kz qb;have gT:=Kz (show(s.reads.getD by_ []).length+cZ n U≤2000 by have h9:=aj.o;simp only[map_cons,map_nil,sum_cons,sum_nil] at h9;omega);rw[Nat.zero_mul,Nat.add_zero] at bL ku ky lq oH oL o5;have q8:=blk bL;have zH:=Kz q8;clear au q cr cs cm qb;go_in;go_wp2_with fail;obtain⟨B,Z⟩:=nm (W.alloc (.cells #[.int .i64 5,.int .i64 q1,.int .i64 q2,.int .i64 q3,.string q4,.string q5,.slice (some ⟨cb,co,none⟩) 3 ai] 165));rw[←Z];have gB:Gr W B:=by rw[Z];exact gd
   have VB:=Kz (show az B W.heap.size 165 [.int .i64 5,.int .i64 q1,.int .i64 q2,.int .i64 q3,.string q4,.string q5,.slice (some ⟨cb,co,none⟩) 3 ai] by rw[Z];exact az.new rfl);have O:=Kz gB;clear Z gB bL ku ky lq oH oL o5 q8 y0 y1 y2 y3 y8 zy;refine(gD.o U cf #[c0,c1,c2,c3,c4,c5,c6] fp (some s) B (Rd.gr zq.o O.o) (ah.o.sub zu.o) ((show SpG w0 g t L ag0 kg0 ag1 kg1 at_ kt aL kL bz bv bs br f fp (some s) W from⟨HC.o,aZ.o⟩).grow O.o) (I.o.2 U (by simp)) (fun s1 h1=>by obtain rfl:=Option.some.inj h1;exact⟨ae.o,gT.o⟩)).mono ?_;rintro e2 W2 ⟨v,f1,rfl,hv,fe,X,ax⟩;rw[bind_some,←zo.o] at fe X;have wF:=Kz fe;have wL:=Kz X;have J:=Kz ((MvW.dm O.o).trans ax);have zL:=Kz (J.o.o zH.o dV.o);have q9:=Kz (ax.row VB.o vD.o);have ve:=Kz (ax.o VB.o.lt vD.o);have x1:W2.cell? ⟨W.heap.size,1,none⟩=some (.int .i64 q1):=q9.o.c 1;have x6:W2.cell? ⟨W.heap.size,6,none⟩=some (.slice (some ⟨cb,co,none⟩) 3 ai):=q9.o.c 6;have zx:=blk x1;clear fe X ax hv
   by_cases gF:v=0
   ·have F5:=Kz gF
    have F6:(v !=0)=false:=by simp[gF]
    obtain⟨z0,z1,z2,z3,z4,z5,z6⟩:=MK.o.mv J.o.wr dV.o
    have fu:=Kz (show∀s',R1.map (·.2)=some s'→s'.on L.length by_∧(s'.reads.getD by_ []).length+cZ n xc≤2000 by
     intro s' bH
     obtain⟨p,hp,rfl⟩:=Option.map_eq_some_iff.1 bH;have k1:=vX.o p hp;refine⟨k1.on ae.o,?_⟩;have k2:=k1.room ae.o.1;have k3:=ML.o;simp only[toNat_natCast] at k2;omega)
    have F8:=Kz (show kr=(R1.map (·.2)).bind fun s=>eX g t L G node by_ n xc s from HR.o.trans (Jn (F:=fun s=>eX g t L G node by_ n xc s) (H:=fun s=>eX g t L G node by_ n V s) wL.o F5.o));clear gF;go_wp2_with fail;refine(gD.o xc uf #[u0,u1,u2,u3,u4,u5,u6] f1 (R1.map (·.2)) W2 (J.o.rd LW.o (ah.o.sub LX.o)) (J.o.apart (ah.o.sub LX.o) (Rd.lt LW.o)) wF.o (I.o.2 xc (by simp)) fu.o).mono ?_;rintro e9 w4 T;have ak:=Kz (T.lift (W:=W) J.o F8.o);obtain⟨v4,f4,rfl,-⟩:=T;clear F6 x1 x6 zx z0 z1 z2 z3 z4 z5 z6;go_wp2_with fail;go_ret;exact ak.o
   ·have F5:=Kz gF
    have F6:(v !=0)=true:=by simpa using gF
    obtain⟨z0,z1,z2,z3,z4,z5,z6⟩:=MI.o.mv J.o.wr dV.o
    have fu:=Kz (show∀s',R1.map (·.2)=some s'→s'.on L.length by_∧(s'.reads.getD by_ []).length+cZ n V≤2000 by
     intro s' bH
     obtain⟨p,hp,rfl⟩:=Option.map_eq_some_iff.1 bH;have k1:=vX.o p hp;refine⟨k1.on ae.o,?_⟩;have k2:=k1.room ae.o.1;have k3:=MJ.o;simp only[toNat_natCast] at k2;omega)
    have F8:=Kz (show kr=(R1.map (·.2)).bind fun s=>eX g t L G node by_ n V s from HR.o.trans (Gc (F:=fun s=>eX g t L G node by_ n xc s) (H:=fun s=>eX g t L G node by_ n V s) wL.o F5.o));clear gF;go_wp2_with fail;refine(gD.o V ef #[e0,e1,e2,e3,e4,e5,e6] f1 (R1.map (·.2)) W2 (J.o.rd LU.o (ah.o.sub LV.o)) (J.o.apart (ah.o.sub LV.o) (Rd.lt LU.o)) wF.o (I.o.2 V (by simp)) fu.o).mono ?_;rintro e9 w4 T;have ak:=Kz (T.lift (W:=W) J.o F8.o);obtain⟨v4,f4,rfl,-⟩:=T;clear F6 x1 x6 zx z0 z1 z2 z3 z4 z5 z6;go_wp2_with fail;go_ret;exact ak.o
  ·subst h
   rw[Gp];have HP:=Kz (I.o.1.2.2.1 rfl);have LY:=Kz (show(iB t (node:Int)).length=m+1 from CF HE.o.tree bq hm);obtain⟨bg,vB⟩:=nm (iB t (node:Int));rw[←vB] at LY ⊢;have Mc:=Kz vB;have p0:0≤q2:=HP.o.1;have p1:q2<(bg.length:Int):=by have h1:=LY.o;have h2:q2≤(m:Int):=HP.o.2;omega
   obtain⟨j,hj⟩:∃j:Nat,q2=j:=⟨q2.toNat,by omega⟩;subst hj;have yc:j<bg.length:=by omega
   clear vB;go_in;go_wp2_with fail;obtain⟨B,Z⟩:=nm (W.alloc (.cells #[.int .i64 6,.int .i64 q1,.int .i64 (j:Int),.int .i64 q3,.string q4,.string q5,.slice gV q6.length ai] 165));rw[←Z];have gB:Gr W B:=by rw[Z];exact gd
   have x2:B.cell? ⟨W.heap.size,2,none⟩=some (.int .i64 (j:Int)):=by rw[Z];exact aJ rfl rfl
   have u2:=gB.keep y2;have zx:=blk x2;have O:=Kz gB;clear Z gB y0 y1 y2 y3 y8 zy
   have LZ:=Kz (fun x:Ext=>show Calls Tryz.prog 167 #[.agg #[.slice at_ t.length kt],.int .i64 (node:Int)] (B.drew.ext x) fun e w'=>∃b9 o9 k9,e=.returned (.slice (some ⟨b9,o9,none⟩) bg.length k9)∧w'.cell? ⟨b9,o9+j,none⟩=some (.int .i64 bg[j])∧(Lit.int .i64 bg[j]).wf=true∧Gr (B.drew.ext x) w' from by
    obtain⟨ft,ht⟩:=HE.o.ht;refine(Ak t (node:Int) _ (Rd.gr ht ((HC.o.gr.trans O.o).trans gd)) HE.o.wt).mono ?_;rw[←Mc.o];rintro e9 w9 ⟨u9,M9,rfl,Ha,Na,g9⟩;obtain⟨a9,k9,rfl,Nb,Nc,MM⟩:=Ha.open;obtain⟨b9,o9,rfl,LA⟩:=MM j yc;exact⟨b9,o9,k9,rfl,(Ha.fQ yc).1,Ha.Eu yc,g9⟩)
   have ay:=Kz (show bg.getD ((j:Int).toNat) 0=bg[j] by rw[toNat_natCast];exact getD_at yc);obtain⟨IV,L6⟩:=nm (bg[j]);rw[←L6] at LZ ay;clear L6
   go_region_with (first|(go_at_call 167;refine(LZ.o ⟨#[],0⟩).mono ?_;rintro e9 w9 ⟨b9,o9,k9,rfl,c9,i9,g9⟩;have z9:=blk c9;have MN:=(Gr.trans gd g9).keep x2;have Nf:=blk MN))
   all_goals
    go_simp;go_wp2_with fail;go_ret;rw[ay.o];have g10:Gr W w9:=O.o.trans (Gr.trans gd g9);exact SpS.nZ i9 (HC.o.grow g10) aZ.o (MvW.dm g10)
  ·subst h
   rw[GZ];go_in;go_wp2_with fail;go_ret;exact SpS.nZ (by decide) (HC.o.grow gd) aZ.o (MvW.dm gd)
  ·subst h
   obtain⟨a,rfl⟩:=I.o.1.one rfl;obtain⟨kr,q⟩:=nm (eX g t L G node by_ (n+1) ((8,q1,q2,q3,q4,q5,[a]):aA n) s);have ay:=Kz q;rw[←q];clear q;go_in;go_wp2_with fail;refine(I4 HE.o HG.o yu.o HZ gD.o q1 q2 q3 q4 q5 a fx gV ai fp s _ (Rd.gr (show Rd.rd (α:=aA n) fx W [.int .i64 8,.int .i64 q1,.int .i64 q2,.int .i64 q3,.string q4,.string q5,.slice gV 1 ai] (8,q1,q2,q3,q4,q5,[a]) from HX.o) gd) ah.o ((show SpG w0 g t L ag0 kg0 ag1 kg1 at_ kt aL kL bz bv bs br f fp (some s) W from⟨HC.o,aZ.o⟩).grow gd) (I.o.2 a (by simp)) ae.o (by have h9:=aj.o;simp only[map_cons,map_nil,sum_cons,sum_nil] at h9;omega)).mono ?_;rintro e w4 T;have ak:=Kz (T.lift (W:=W) (MvW.dm gd) ay.o);obtain⟨v4,f4,rfl,-⟩:=T;go_wp2_with fail;go_ret;exact ak.o
end
end Go.Proofs.YtleafadpfeibfaaGreat
