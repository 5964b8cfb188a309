/- Contracts and laws towards ReadsOf, part 47 of 54. No condition. -/
import Derived.Test.YtleafadpfeibfaaGreatRx43
set_option maxHeartbeats 32000000
set_option maxRecDepth 10000
set_option linter.unusedVariables false
set_option linter.unusedSimpArgs false
namespace Go.Proofs.YtleafadpfeibfaaGreat
open Go.RowKit
open _root_.List (map_cons map_nil sum_cons sum_nil)
open _root_.Nat (add_zero zero_mul)
open _root_.Option (bind_assoc)
variable{d:Nat}
variable{node by_:Nat}
section
variable{w0:World}{g:af d}{t:List aT}{L:List av}{ag0:Option Addr}{kg0:Nat}{ag1:Option Addr}{kg1:Nat}{at_:Option Addr}{kt:Nat}{aL:Option Addr}{kL:Nat}{bz bv bk bs br f:Nat}
def EvI(w0:World)(g:af d)(t:List aT)(L:List av)(ag0:Option Addr)(kg0:Nat)(ag1:Option Addr)(kg1:Nat)(at_:Option Addr)(kt:Nat)(aL:Option Addr)(kL:Nat)(bz bv bk bs br f:Nat)(G:Eng→Int→Int→Res)(node by_ m n:Nat):Prop:=
 ∀(x:GE n) (fx:List Nat) (cs:Array Value) (fp:List Nat) (o:Option Eng) (W:World) (pe pn pb:Nat) (h:Option Addr) (li q:Nat),Rd.rd fx W cs.toList x→Ap fx fp→ImG w0 g t L ag0 kg0 ag1 kg1 at_ kt aL kL bz bv bk bs br f fp o W→RdB t bz node by_ pe pn pb (.slice h li q) fp W→jh (fun{d} y=>NdP m y) n x→(∀s,o=some s→s.on L.length by_∧(s.reads.getD by_ []).length+cZ n x≤2000)→
  Calls Tryz.prog 110 #[.agg (JH pe pn pb (zk t node) (.slice h li q)),.agg cs] W (Got (ImG w0 g t L ag0 kg0 ag1 kg1 at_ kt aL kL bz bv bk bs br f) fp W (o.bind fun s=>eX g t L G node by_ n x s))
theorem BF{G:Eng→Int→Int→Res}{n c:Nat}{x:GE n}{o:Option Eng}{R1:Res}(B:KpG L G)(J:R1=o.bind fun s=>eX g t L G node by_ n x s)(hb:∀s,o=some s→s.on L.length by_∧(s.reads.getD by_ []).length+(cZ n x+c)≤2000):
  ∀h,R1.map (·.2)=some h→h.on L.length by_∧(h.reads.getD by_ []).length+c≤2000:=by
 intro h D
 obtain⟨p,q,rfl⟩:=Option.map_eq_some_iff.1 D;rw[J] at q;obtain⟨s,hs,q⟩:=Option.bind_eq_some_iff.1 q;obtain⟨h1,O⟩:=hb s hs;have I:=lG B h1 q;refine⟨I.on h1,?_⟩;have K:=I.room h1.1;simp only[Int.toNat_natCast] at K;omega
theorem Jg(E:EnvD w0 g t L ag0 kg0 ag1 kg1 at_ kt aL kL)(q:node<t.length):(Lit.int .i64 (zk t node)).wf=true:=by
 obtain⟨w,hw⟩:=nm (w0);subst hw;obtain⟨ft,U,K,B⟩:=E.ht;obtain rfl:Value.slice at_ t.length kt=U:=by simpa using K
 obtain⟨Z,ae,h,-,-,I⟩:=B.open;injection h with h _ J;subst h;subst J;have D:=q;obtain⟨b,off,rfl,ah⟩:=I node D;obtain⟨p0,p1,p2,V,p4,p5,ai,aj,ak,au,O,ax,ay,aZ,bg,T,bq,bB,X,Y,bH,bL,bR,bX,cB,cK,cO⟩:=KZ B D (Gr.refl _);rw[show zk t node=V by unfold zk;rw[gG q,←O.o]];exact T
abbrev AgD(W:World)(b o:Nat)(h q B D I J K:Value):Prop:=
 W.cell? ⟨b,o,none⟩=some h∧W.cell? ⟨b,o+1,none⟩=some q∧W.cell? ⟨b,o+2,none⟩=some B∧W.cell? ⟨b,o+3,none⟩=some D∧W.cell? ⟨b,o+4,none⟩=some I∧W.cell? ⟨b,o+5,none⟩=some J∧W.cell? ⟨b,o+6,none⟩=some K
theorem AgD.mv{W W':World}{b o:Nat}{q B D I J K O:Value}{fp:List Nat}(h:AgD W b o q B D I J K O)(k:Wr fp W W')(hb:b∉fp):AgD W' b o q B D I J K O:=
 ⟨k.aO h.1 hb,k.aO h.2.1 hb,k.aO h.2.2.1 hb,k.aO h.2.2.2.1 hb,k.aO h.2.2.2.2.1 hb,k.aO h.2.2.2.2.2.1 hb,k.aO h.2.2.2.2.2.2 hb⟩
theorem JO(E:EnvD w0 g t L ag0 kg0 ag1 kg1 at_ kt aL kL){G:Eng→Int→Int→Res}{m n:Nat}(hG:FT w0 (.slice ag0 g.1.length kg0) (.slice ag1 g.2.length kg1) (.slice at_ t.length kt) (.slice aL L.length kL) L L.length bz bv bk bs br f G)(zq:KpG L G)(zu:by_<L.length)(iw:node<t.length)(hm:t[node].2.2.2.2.2.length=m)
  (hE:EvI w0 g t L ag0 kg0 ag1 kg1 at_ kt aL kL bz bv bk bs br f G node by_ m n):EvI w0 g t L ag0 kg0 ag1 kg1 at_ kt aL kL bz bv bk bs br f G node by_ m (n+1):=by
 intro x fx cs fp o W pe pn pb ai li ki hx zx hS hR hN hb
 have HE:=Kz E;have HG:=Kz hG;have gF:=Kz hE;have au:=Kz zx;have HS:=Kz hS;have y7:=Kz zq;have dB:=Kz hR;have zy:=Kz zu;obtain⟨q0,q1,q2,q3,q4,q5,q6⟩:=(x:aA n);obtain⟨LH,K4,rfl,zH,K6,zL,zO,La,Li,z8,y8⟩:=aF q0 q1 q2 q3 q4 q5 q6 (show Rd.rd (α:=aA n) fx W cs.toList _ from hx);obtain⟨A7,cB,rfl,-,-,-⟩:=y8.open;have gT:=Kz y8;have vX:=Kz (And.intro zL (And.intro zO z8));have cK:=Kz (show∀c∈K4,c∈fx from fun c hc=>by rw[zH];simpa using hc)
 have y9:∀b∈fp,b<W.heap.size:=by
  obtain⟨s9,c9,h9,-⟩:=hS.core;exact h9.lt
 have fu:=Kz (show W.heap.size∉fp from fun hm=>by have:=y9 _ hm;omega);have gD:=Kz (show W.heap.size+1∉fp from fun hm=>by have:=y9 _ hm;omega);have O:=Kz (And.intro hN.1 hN.2);have LG:1≤q0∧q0≤8:=hN.1.1;have HB:=Kz hb;clear E hG hE zx zq hx y8 K6 zL zO La Li z8 zH y9 hb hN hS hR zu;unfold JH
 show Calls _ _ _ _ (Got _ fp W (o.bind fun s=>eX g t L G node by_ (n+1) ((q0,q1,q2,q3,q4,q5,q6):aA n) s))
 rcases(show q0=1∨q0=2∨q0=3∨q0=4∨q0=5∨q0=6∨q0=7∨q0=8 by omega) with h|h|h|h|h|h|h|h
 ·subst h
  simp only[F9];go_in;go_wp2_with fail;go_ret;exact Got.have vX.o.1 (HS.o.grow gd) (MvW.dm gd)
 ·subst h
  simp only[GM];have Lj:=Kz (Jg HE.o iw);go_in;go_wp2_with fail;go_ret;exact Got.have Lj.o (HS.o.grow gd) (MvW.dm gd)
 ·subst h
  simp only[GH]
  have KX:=Kz (show∀s,o=some s→s.busy by_∧(s.reads.getD by_ []).length<2000 from fun s h=>by
   obtain⟨h1,h2⟩:=HB.o s h;rw[oV] at h2;exact⟨h1.1,by omega⟩)
  go_in;go_wp2_with fail;obtain⟨B,V⟩:=nm ((W.alloc (.cells #[.func (.func 144) #[] #[.pointer (some ⟨pe,0,none⟩),.pointer (some ⟨pn,0,none⟩),.pointer (some ⟨pb,0,none⟩)],.func (.func 146) #[] #[.pointer (some ⟨pe,0,none⟩),.pointer (some ⟨pb,0,none⟩)],.int .i64 (zk t node),.slice ai li ki] 173)).alloc (.cells #[.int .i64 3,.int .i64 q1,.int .i64 q2,.int .i64 q3,.string q4,.string q5,.slice A7 q6.length cB] 165));rw[←V];have gB:Gr W B:=by rw[V];exact gd
  have VR:=Kz (show az B W.heap.size 173 [.func (.func 144) #[] #[.pointer (some ⟨pe,0,none⟩),.pointer (some ⟨pn,0,none⟩),.pointer (some ⟨pb,0,none⟩)],.func (.func 146) #[] #[.pointer (some ⟨pe,0,none⟩),.pointer (some ⟨pb,0,none⟩)],.int .i64 (zk t node),.slice ai li ki] by rw[V];exact(az.new rfl).gr gd);have VX:=Kz (show az B (W.heap.size+1) 165 [.int .i64 3,.int .i64 q1,.int .i64 q2,.int .i64 q3,.string q4,.string q5,.slice A7 q6.length cB] by rw[V];exact az.new (by simp));have D:=Kz gB;clear V gB;refine(Jj HE.o HG.o zy.o iw q2 q5 vX.o.2.1 vX.o.2.2 fp o _ (pe:=pe) (pn:=pn) (pb:=pb) (ids:=.slice ai li ki) (HS.o.grow D.o) (dB.o.gr D.o) KX.o).mono ?_;rintro e w4 X;have bX:=Kz (X.lift (W:=W) (MvW.dm (tg D)) rfl);obtain⟨v4,f4,rfl,-⟩:=X;go_wp2_with fail;go_ret;exact bX.o
 ·subst h
  obtain⟨U,xb,rfl⟩:=O.o.1.two rfl;obtain⟨cb,co,c0,c1,c2,c3,c4,c5,c6,cf,cq,cm,cr,cs,ah,ax,ay,aZ,bg,bq,bB⟩:=kZ (xs:=[U,xb]) gT.o (k:=0) (by simp);subst cq;obtain⟨eb,eo,e0,e1,e2,e3,e4,e5,e6,ef,eq,em,er,es,oL,o5,qb,q8,q9,sO,ve⟩:=kZ (xs:=[U,xb]) gT.o (k:=1) (by simp)
  obtain⟨rfl,rfl⟩:cb=eb∧co=eo:=by
   injection eq with h;injection h with h1 h2;exact⟨h1,h2⟩
  clear eq em;have ez:=Kz (show AgD W cb (co+7) e0 e1 e2 e3 e4 e5 e6 from⟨oL,o5,qb,q8,q9,sO,ve⟩);have er:=Kz (show Rd.rd ef W [e0,e1,e2,e3,e4,e5,e6] xb from er);have es:=Kz (fun c (hc:c∈ef)=>cK.o c (es c hc));clear oL o5 qb q8 q9 sO ve
  -- the first argument U (cells c..); 4 the kind, 2 the number, cZ n xb what the others may read
  obtain⟨R1,Z⟩:=nm (o.bind fun s=>eX g t L G node by_ n U s);obtain⟨wF,q⟩:=nm (o.bind fun s=>eX g t L G node by_ (n+1) ((4,q1,q2,q3,q4,q5,[U,xb]):aA n) s);rw[←q];simp only[Gz] at q;rw[←bind_assoc,←Z] at q;have HR:=Kz q;have vB:=Kz Z;have vD:=Kz (show Rd.rd cf W [c0,c1,c2,c3,c4,c5,c6] U from cr);have vF:=Kz (fun c (hc:c∈cf)=>cK.o c (cs c hc));have dS:cb∉fp:=au.o _ (cK.o _ cm);have aj:=Kz dS;rw[zero_mul,add_zero] at ah ax ay aZ bg bq bB;have vG:=Kz (show AgD W cb co c0 c1 c2 c3 c4 c5 c6 from⟨ah,ax,ay,aZ,bg,bq,bB⟩);have za:=Kz (blk ah)
  have T:=Kz (show∀s,o=some s→s.on L.length by_∧(s.reads.getD by_ []).length+(cZ n U+(cZ n xb))≤2000 from fun s h=>by
   obtain⟨h1,h2⟩:=HB.o s h;refine⟨h1,?_⟩;rw[oV] at h2;simp only[map_cons,map_nil,sum_cons,sum_nil] at h2;omega)
  have cO:=Kz (BF y7.o Z T.o);clear Z q cr cs cm dS ah ax ay aZ bg bq bB;go_in;go_wp2_with fail;obtain⟨B,V⟩:=nm ((W.alloc (.cells #[.func (.func 144) #[] #[.pointer (some ⟨pe,0,none⟩),.pointer (some ⟨pn,0,none⟩),.pointer (some ⟨pb,0,none⟩)],.func (.func 146) #[] #[.pointer (some ⟨pe,0,none⟩),.pointer (some ⟨pb,0,none⟩)],.int .i64 (zk t node),.slice ai li ki] 173)).alloc (.cells #[.int .i64 4,.int .i64 q1,.int .i64 q2,.int .i64 q3,.string q4,.string q5,.slice (some ⟨cb,co,none⟩) 2 cB] 165));rw[←V];have gB:Gr W B:=by rw[V];exact gd
  have VR:=Kz (show az B W.heap.size 173 [.func (.func 144) #[] #[.pointer (some ⟨pe,0,none⟩),.pointer (some ⟨pn,0,none⟩),.pointer (some ⟨pb,0,none⟩)],.func (.func 146) #[] #[.pointer (some ⟨pe,0,none⟩),.pointer (some ⟨pb,0,none⟩)],.int .i64 (zk t node),.slice ai li ki] by rw[V];exact(az.new rfl).gr gd);have VX:=Kz (show az B (W.heap.size+1) 165 [.int .i64 4,.int .i64 q1,.int .i64 q2,.int .i64 q3,.string q4,.string q5,.slice (some ⟨cb,co,none⟩) 2 cB] by rw[V];exact az.new (by simp));have D:=Kz gB;clear V gB;have vL:=Kz (vG.o.mv (D.o.eF fp) aj.o);have kr:=fun(w':World) (h:Wr fp B w')=>(VR.o.wr h fu.o).c4
  have kx:=fun(w':World) (h:Wr fp B w')=>(VX.o.wr h gD.o).c7
  have ke:=fun(w':World) (h:Wr fp B w')=>vL.o.mv h aj.o
  refine wp_region_held_drew (S:=(fun w'=>Wr fp B w')) (by kernel_rfl) ((gd:Gr B B.drew).eF _) (fun ak=>?_)
  refine aK 0 28 ?_
  refine aK 1 29 ?_
  refine aK 2 30 ?_
  refine aK 3 31 ?_
  refine aK 4 32 ?_
  refine gy [5] ?_
  refine AllReadyH.cons rfl (fun K Y=>?_) AllReadyH.nil
  go_simp
  go_at_call 110
  refine(gF.o U cf #[c0,c1,c2,c3,c4,c5,c6] fp o _ pe pn pb ai li ki (Rd.gr vD.o (tg D)) (au.o.sub vF.o) (HS.o.grow (tg D)) (dB.o.gr (tg D)) (O.o.2 U (by simp)) (fun s h=>⟨(T.o s h).1,by have:=(T.o s h).2;omega⟩)).mono ?_;rintro e2 I ⟨v,f1,rfl,hv,bH,bL,bR⟩;rw[←vB.o] at bH bL;have gV:=Kz bH;have gX:=Kz bL;have J:=Kz ((MvW.dm (tg D)).trans bR:MvW fp W f1 I);have ae:=Kz ((MvW.dm gd).trans bR:MvW fp B f1 I);have HV:=Kz hv;clear bH bL bR hv;refine Y.out _ _ ae.o.wr (fun vO=>?_);clear Y K
  try simp only[Act.put,uq1,uq2,uq3]
  refine aK 6 5 ?_
  refine wpAnyH_done (by kernel_rfl) ?_ _
  skip;have ku:=Kz (J.o.o za.o aj.o);have wL:=Kz (ae.o.row VR.o fu.o);have yc:=Kz (ae.o.row VX.o gD.o);have ky:=Kz (ae.o.o VR.o.lt fu.o);have lq:=Kz (ae.o.o VX.o.lt gD.o);have oH:=Kz (dB.o.mv J.o);clear kr kx ke vO ak;have vR:=Kz (ez.o.mv J.o.wr aj.o);have kr:=fun(w':World) (h:Wr f1 I w')=>(wL.o.wr h ky.o).c4
  have kx:=fun(w':World) (h:Wr f1 I w')=>(yc.o.wr h lq.o).c7
  have ke:=fun(w':World) (h:Wr f1 I w')=>vR.o.mv h ku.o
  go_simp;go_wp2_with fail;refine wp_region_held_drew (S:=(fun w'=>Wr f1 I w')) (by kernel_rfl) ((gd:Gr I I.drew).eF _) (fun ak=>?_);refine aK 0 34 ?_;refine aK 2 36 ?_;refine aK 3 37 ?_;refine aK 4 38 ?_;refine aK 1 35 ?_;refine aK 5 39 ?_;refine aK 6 40 ?_;refine aK 7 41 ?_;refine gy [8] ?_;refine AllReadyH.cons rfl (fun K Y=>?_) AllReadyH.nil;go_simp
  go_at_call 110
  refine(gF.o xb ef #[e0,e1,e2,e3,e4,e5,e6] f1 (R1.map (·.2)) _ pe pn pb ai li ki (Rd.gr (J.o.rd er.o (au.o.sub es.o)) gd) (J.o.apart (au.o.sub es.o) (Rd.lt er.o)) (gV.o.grow gd) (oH.o.gr gd) (O.o.2 xb (by simp)) cO.o).mono ?_;rintro e9 W3 ⟨v2,f2,rfl,Lm,BM,EB,E5⟩;have Ls:=Kz BM;have Lv:=Kz EB;have zb:=Kz ((MvW.dm gd).trans E5:MvW f1 I f2 W3);clear BM EB E5 Lm;refine Y.out _ _ zb.o.wr (fun vO=>?_);clear Y K
  try simp only[Act.put,uq1,uq2,uq3]
  refine gy [9] ?_
  refine AllReadyH.cons rfl (fun K Y=>?_) AllReadyH.nil
  go_simp
  go_at_call 148
  refine(CO q1 v v2 _).mono ?_;rintro e9 w9 ⟨rfl,x9,rfl⟩;refine Y.out _ _ (zb.o.wr.gr gd) (fun ze=>?_);clear Y K
  try simp only[Act.put,uq1,uq2,uq3]
  refine aK 10 4 ?_
  refine wpAnyH_done (by kernel_rfl) ?_ _
  skip;go_wp2_with fail;go_ret;rw[HR.o];refine⟨opV q1 v v2,f2,rfl,Gw _ _ _,?_,Hf gX.o Lv.o,J.o.trans (zb.o.gr gd)⟩;rw[CL];exact Ls.o.grow gd
 ·subst h
  obtain⟨U,xb,xc,rfl⟩:=O.o.1.three rfl;obtain⟨cb,co,c0,c1,c2,c3,c4,c5,c6,cf,cq,cm,cr,cs,ah,ax,ay,aZ,bg,bq,bB⟩:=kZ (xs:=[U,xb,xc]) gT.o (k:=0) (by simp);subst cq;obtain⟨eb,eo,e0,e1,e2,e3,e4,e5,e6,ef,eq,em,er,es,oL,o5,qb,q8,q9,sO,ve⟩:=kZ (xs:=[U,xb,xc]) gT.o (k:=1) (by simp)
  obtain⟨rfl,rfl⟩:cb=eb∧co=eo:=by
   injection eq with h;injection h with h1 h2;exact⟨h1,h2⟩
  obtain⟨ub,uo,u0,u1,u2,u3,u4,u5,u6,uf,uq,Lx,ur,us,FX,F4,F5,F6,F8,Ha,He⟩:=kZ (xs:=[U,xb,xc]) gT.o (k:=2) (by simp)
  obtain⟨rfl,rfl⟩:cb=ub∧co=uo:=by
   injection uq with h;injection h with h1 h2;exact⟨h1,h2⟩
  clear eq em uq Lx;have ez:=Kz (show AgD W cb (co+7) e0 e1 e2 e3 e4 e5 e6 from⟨oL,o5,qb,q8,q9,sO,ve⟩);have er:=Kz (show Rd.rd ef W [e0,e1,e2,e3,e4,e5,e6] xb from er);have es:=Kz (fun c (hc:c∈ef)=>cK.o c (es c hc));clear oL o5 qb q8 q9 sO ve;have uz:=Kz (show AgD W cb (co+14) u0 u1 u2 u3 u4 u5 u6 from⟨FX,F4,F5,F6,F8,Ha,He⟩);have ur:=Kz (show Rd.rd uf W [u0,u1,u2,u3,u4,u5,u6] xc from ur);have us:=Kz (fun c (hc:c∈uf)=>cK.o c (us c hc));clear FX F4 F5 F6 F8 Ha He
  -- the first argument U (cells c..); 5 the kind, 3 the number, cZ n xb + cZ n xc what the others may read
  obtain⟨R1,Z⟩:=nm (o.bind fun s=>eX g t L G node by_ n U s);obtain⟨wF,q⟩:=nm (o.bind fun s=>eX g t L G node by_ (n+1) ((5,q1,q2,q3,q4,q5,[U,xb,xc]):aA n) s);rw[←q];simp only[Gh] at q;rw[←bind_assoc,←Z] at q;have HR:=Kz q;have vB:=Kz Z;have vD:=Kz (show Rd.rd cf W [c0,c1,c2,c3,c4,c5,c6] U from cr);have vF:=Kz (fun c (hc:c∈cf)=>cK.o c (cs c hc));have dS:cb∉fp:=au.o _ (cK.o _ cm);have aj:=Kz dS;rw[zero_mul,add_zero] at ah ax ay aZ bg bq bB;have vG:=Kz (show AgD W cb co c0 c1 c2 c3 c4 c5 c6 from⟨ah,ax,ay,aZ,bg,bq,bB⟩);have za:=Kz (blk ah)
  have T:=Kz (show∀s,o=some s→s.on L.length by_∧(s.reads.getD by_ []).length+(cZ n U+(cZ n xb+cZ n xc))≤2000 from fun s h=>by
   obtain⟨h1,h2⟩:=HB.o s h;refine⟨h1,?_⟩;rw[oV] at h2;simp only[map_cons,map_nil,sum_cons,sum_nil] at h2;omega)
  have cO:=Kz (BF y7.o Z T.o);clear Z q cr cs cm dS ah ax ay aZ bg bq bB;go_in;go_wp2_with fail;obtain⟨B,V⟩:=nm ((W.alloc (.cells #[.func (.func 144) #[] #[.pointer (some ⟨pe,0,none⟩),.pointer (some ⟨pn,0,none⟩),.pointer (some ⟨pb,0,none⟩)],.func (.func 146) #[] #[.pointer (some ⟨pe,0,none⟩),.pointer (some ⟨pb,0,none⟩)],.int .i64 (zk t node),.slice ai li ki] 173)).alloc (.cells #[.int .i64 5,.int .i64 q1,.int .i64 q2,.int .i64 q3,.string q4,.string q5,.slice (some ⟨cb,co,none⟩) 3 cB] 165));rw[←V];have gB:Gr W B:=by rw[V];exact gd
  have VR:=Kz (show az B W.heap.size 173 [.func (.func 144) #[] #[.pointer (some ⟨pe,0,none⟩),.pointer (some ⟨pn,0,none⟩),.pointer (some ⟨pb,0,none⟩)],.func (.func 146) #[] #[.pointer (some ⟨pe,0,none⟩),.pointer (some ⟨pb,0,none⟩)],.int .i64 (zk t node),.slice ai li ki] by rw[V];exact(az.new rfl).gr gd);have VX:=Kz (show az B (W.heap.size+1) 165 [.int .i64 5,.int .i64 q1,.int .i64 q2,.int .i64 q3,.string q4,.string q5,.slice (some ⟨cb,co,none⟩) 3 cB] by rw[V];exact az.new (by simp));have D:=Kz gB;clear V gB;have vL:=Kz (vG.o.mv (D.o.eF fp) aj.o);have kr:=fun(w':World) (h:Wr fp B w')=>(VR.o.wr h fu.o).c4
  have kx:=fun(w':World) (h:Wr fp B w')=>(VX.o.wr h gD.o).c7
  have ke:=fun(w':World) (h:Wr fp B w')=>vL.o.mv h aj.o
  refine wp_region_held_drew (S:=(fun w'=>Wr fp B w')) (by kernel_rfl) ((gd:Gr B B.drew).eF _) (fun ak=>?_)
  refine aK 0 46 ?_
  refine aK 1 47 ?_
  refine aK 2 48 ?_
  refine aK 3 49 ?_
  refine aK 4 50 ?_
  refine gy [5] ?_
  refine AllReadyH.cons rfl (fun K Y=>?_) AllReadyH.nil
  go_simp
  go_at_call 110
  refine(gF.o U cf #[c0,c1,c2,c3,c4,c5,c6] fp o _ pe pn pb ai li ki (Rd.gr vD.o (tg D)) (au.o.sub vF.o) (HS.o.grow (tg D)) (dB.o.gr (tg D)) (O.o.2 U (by simp)) (fun s h=>⟨(T.o s h).1,by have:=(T.o s h).2;omega⟩)).mono ?_;rintro e2 I ⟨v,f1,rfl,hv,bH,bL,bR⟩;rw[←vB.o] at bH bL;have gV:=Kz bH;have gX:=Kz bL;have J:=Kz ((MvW.dm (tg D)).trans bR:MvW fp W f1 I);have ae:=Kz ((MvW.dm gd).trans bR:MvW fp B f1 I);have HV:=Kz hv;clear bH bL bR hv;refine Y.out _ _ ae.o.wr (fun vO=>?_);clear Y K
  try simp only[Act.put,uq1,uq2,uq3]
  refine aK 6 52 ?_
  refine wpAnyH_done (by kernel_rfl) ?_ _
  skip;have ku:=Kz (J.o.o za.o aj.o);have wL:=Kz (ae.o.row VR.o fu.o);have yc:=Kz (ae.o.row VX.o gD.o);have ky:=Kz (ae.o.o VR.o.lt fu.o);have lq:=Kz (ae.o.o VX.o.lt gD.o);have oH:=Kz (dB.o.mv J.o);clear kr kx ke vO ak
  by_cases ik:v=0
  ·have zf:=Kz ik
   have LA:(v !=0)=false:=by simp[ik]
   have vR:=Kz (uz.o.mv J.o.wr aj.o);have kr:=fun(w':World) (h:Wr f1 I w')=>(wL.o.wr h ky.o).c4
   have kx:=fun(w':World) (h:Wr f1 I w')=>(yc.o.wr h lq.o).c7
   have ke:=fun(w':World) (h:Wr f1 I w')=>vR.o.mv h ku.o
   have zg:=Kz (show wF=(R1.map (·.2)).bind fun s=>eX g t L G node by_ n xc s from HR.o.trans (Jn (F:=fun s=>eX g t L G node by_ n xc s) (H:=fun s=>eX g t L G node by_ n xb s) gX.o zf.o));clear ik;go_simp;go_wp2_with fail;refine wp_region_held_drew (S:=(fun w'=>Wr f1 I w')) (by kernel_rfl) ((gd:Gr I I.drew).eF _) (fun ak=>?_);refine aK 0 59 ?_;refine aK 1 60 ?_;refine aK 2 61 ?_;refine aK 3 62 ?_;refine aK 4 63 ?_;refine gy [5] ?_;refine AllReadyH.cons rfl (fun K Y=>?_) AllReadyH.nil;go_simp
   go_at_call 110
   refine(gF.o xc uf #[u0,u1,u2,u3,u4,u5,u6] f1 (R1.map (·.2)) _ pe pn pb ai li ki (Rd.gr (J.o.rd ur.o (au.o.sub us.o)) gd) (J.o.apart (au.o.sub us.o) (Rd.lt ur.o)) (gV.o.grow gd) (oH.o.gr gd) (O.o.2 xc (by simp)) (fun s h=>⟨(cO.o s h).1,by have:=(cO.o s h).2;omega⟩)).mono ?_;rintro e9 w4 X;have bX:=Kz (X.lift (W:=W) (J.o.gr gd) zg.o);obtain⟨v4,f4,rfl,-,-,-,dV⟩:=X;have fe:Wr f1 I w4:=((MvW.dm gd).trans dV:MvW f1 I f4 w4).wr;clear dV;refine Y.out _ _ fe (fun ze=>?_);clear Y K fe
   try simp only[Act.put,uq1,uq2,uq3]
   refine aK 6 4 ?_
   refine wpAnyH_done (by kernel_rfl) ?_ _
   skip;go_wp2_with fail;go_ret;exact bX.o
  ·have zf:=Kz ik
   have LA:(v !=0)=true:=by simpa using ik
   have vR:=Kz (ez.o.mv J.o.wr aj.o);have kr:=fun(w':World) (h:Wr f1 I w')=>(wL.o.wr h ky.o).c4
   have kx:=fun(w':World) (h:Wr f1 I w')=>(yc.o.wr h lq.o).c7
   have ke:=fun(w':World) (h:Wr f1 I w')=>vR.o.mv h ku.o
   have zg:=Kz (show wF=(R1.map (·.2)).bind fun s=>eX g t L G node by_ n xb s from HR.o.trans (Gc (F:=fun s=>eX g t L G node by_ n xc s) (H:=fun s=>eX g t L G node by_ n xb s) gX.o zf.o));clear ik;go_simp;go_wp2_with fail;refine wp_region_held_drew (S:=(fun w'=>Wr f1 I w')) (by kernel_rfl) ((gd:Gr I I.drew).eF _) (fun ak=>?_);refine aK 0 53 ?_;refine aK 1 54 ?_;refine aK 2 55 ?_;refine aK 3 56 ?_;refine aK 4 57 ?_;refine gy [5] ?_;refine AllReadyH.cons rfl (fun K Y=>?_) AllReadyH.nil;go_simp
   go_at_call 110
   refine(gF.o xb ef #[e0,e1,e2,e3,e4,e5,e6] f1 (R1.map (·.2)) _ pe pn pb ai li ki (Rd.gr (J.o.rd er.o (au.o.sub es.o)) gd) (J.o.apart (au.o.sub es.o) (Rd.lt er.o)) (gV.o.grow gd) (oH.o.gr gd) (O.o.2 xb (by simp)) (fun s h=>⟨(cO.o s h).1,by have:=(cO.o s h).2;omega⟩)).mono ?_;rintro e9 w4 X;have bX:=Kz (X.lift (W:=W) (J.o.gr gd) zg.o);obtain⟨v4,f4,rfl,-,-,-,dV⟩:=X;have fe:Wr f1 I w4:=((MvW.dm gd).trans dV:MvW f1 I f4 w4).wr;clear dV;refine Y.out _ _ fe (fun ze=>?_);clear Y K fe
   try simp only[Act.put,uq1,uq2,uq3]
   refine aK 6 4 ?_
   refine wpAnyH_done (by kernel_rfl) ?_ _
   skip;go_wp2_with fail;go_ret;exact bX.o
 ·subst h
  simp only[Gp];have HP:=Kz (O.o.1.2.2.1 rfl);have HY:=Kz (show(iB t (node:Int)).length=m+1 from CF HE.o.tree iw hm);obtain⟨yu,zl⟩:=nm (iB t (node:Int));obtain⟨fi,hi,-⟩:=dB.o.hi;rw[←zl] at HY hi ⊢;obtain⟨a9,k9,zn,-,-,HZ⟩:=hi.open;injection zn with zn LB LC;subst zn;subst LC;subst LB;have p0:0≤q2:=HP.o.1;have p1:q2<(yu.length:Int):=by have h1:=HY.o;have h2:q2≤(m:Int):=HP.o.2;omega
  obtain⟨j,hj⟩:∃j:Nat,q2=j:=⟨q2.toNat,by omega⟩;subst hj;have y5:j<yu.length:=by omega
  obtain⟨b9,o9,rfl,LD⟩:=HZ j y5;have c9:=(hi.fQ y5).1;have H5:=Kz (hi.Eu y5);obtain⟨IV,zo⟩:=nm (yu[j]);have K3:=Kz (show yu.getD ((j:Int).toNat) 0=IV by rw[Int.toNat_natCast,zo];exact getD_at y5);rw[←zo] at c9 H5;simp only[K3.o];have z9:=blk c9;clear zl zo hi HZ LD;go_in;go_wp2_with fail;go_ret;exact Got.have H5.o (HS.o.grow gd) (MvW.dm gd)
 ·subst h
  simp only[GZ];go_in;go_wp2_with fail;go_ret;exact Got.have (by decide) (HS.o.grow gd) (MvW.dm gd)
 ·subst h
  have LF:=Kz (O.o.1.2.2.2 rfl);obtain⟨U,rfl⟩:=O.o.1.one rfl;obtain⟨cb,co,c0,c1,c2,c3,c4,c5,c6,cf,cq,cm,cr,cs,ah,ax,ay,aZ,bg,bq,bB⟩:=kZ (xs:=[U]) gT.o (k:=0) (by simp);subst cq;obtain⟨R1,Z⟩:=nm (o.bind fun s=>eX g t L G node by_ n U s);obtain⟨wF,q⟩:=nm (o.bind fun s=>eX g t L G node by_ (n+1) ((8,q1,q2,q3,q4,q5,[U]):aA n) s);rw[←q];simp only[GU] at q;rw[←bind_assoc,←Z] at q;have HR:=Kz q;have vB:=Kz Z;have vD:=Kz (show Rd.rd cf W [c0,c1,c2,c3,c4,c5,c6] U from cr);have vF:=Kz (fun c (hc:c∈cf)=>cK.o c (cs c hc));have dS:cb∉fp:=au.o _ (cK.o _ cm);have aj:=Kz dS;rw[zero_mul,add_zero] at ah ax ay aZ bg bq bB;have vG:=Kz (show AgD W cb co c0 c1 c2 c3 c4 c5 c6 from⟨ah,ax,ay,aZ,bg,bq,bB⟩)
  have T:=Kz (show∀s,o=some s→s.on L.length by_∧(s.reads.getD by_ []).length+(cZ n U+1)≤2000 from fun s h=>by
   obtain⟨h1,h2⟩:=HB.o s h;refine⟨h1,?_⟩;rw[oV] at h2;simp only[map_cons,map_nil,sum_cons,sum_nil] at h2;omega)
  have cO:=Kz (BF y7.o Z T.o);clear Z q cr cs cm dS ah ax ay aZ bg bq bB;go_in;go_wp2_with fail;obtain⟨B,V⟩:=nm ((W.alloc (.cells #[.func (.func 144) #[] #[.pointer (some ⟨pe,0,none⟩),.pointer (some ⟨pn,0,none⟩),.pointer (some ⟨pb,0,none⟩)],.func (.func 146) #[] #[.pointer (some ⟨pe,0,none⟩),.pointer (some ⟨pb,0,none⟩)],.int .i64 (zk t node),.slice ai li ki] 173)).alloc (.cells #[.int .i64 8,.int .i64 q1,.int .i64 q2,.int .i64 q3,.string q4,.string q5,.slice (some ⟨cb,co,none⟩) 1 cB] 165));rw[←V];have gB:Gr W B:=by rw[V];exact gd
  have VR:=Kz (show az B W.heap.size 173 [.func (.func 144) #[] #[.pointer (some ⟨pe,0,none⟩),.pointer (some ⟨pn,0,none⟩),.pointer (some ⟨pb,0,none⟩)],.func (.func 146) #[] #[.pointer (some ⟨pe,0,none⟩),.pointer (some ⟨pb,0,none⟩)],.int .i64 (zk t node),.slice ai li ki] by rw[V];exact(az.new rfl).gr gd);have VX:=Kz (show az B (W.heap.size+1) 165 [.int .i64 8,.int .i64 q1,.int .i64 q2,.int .i64 q3,.string q4,.string q5,.slice (some ⟨cb,co,none⟩) 1 cB] by rw[V];exact az.new (by simp));have D:=Kz gB;clear V gB;have vL:=Kz (vG.o.mv (D.o.eF fp) aj.o);have kr:=fun(w':World) (h:Wr fp B w')=>(VR.o.wr h fu.o).c4
  have kx:=fun(w':World) (h:Wr fp B w')=>(VX.o.wr h gD.o).c7
  have ke:=fun(w':World) (h:Wr fp B w')=>vL.o.mv h aj.o
  refine wp_region_held_drew (S:=(fun w'=>Wr fp B w')) (by kernel_rfl) ((gd:Gr B B.drew).eF _) (fun ak=>?_)
  refine aK 0 81 ?_
  refine aK 2 83 ?_
  refine aK 3 84 ?_
  refine aK 8 89 ?_
  refine aK 1 82 ?_
  refine aK 4 85 ?_
  refine aK 5 86 ?_
  refine aK 6 87 ?_
  refine gy [7] ?_
  refine AllReadyH.cons rfl (fun K Y=>?_) AllReadyH.nil
  go_simp
  go_at_call 110
  refine(gF.o U cf #[c0,c1,c2,c3,c4,c5,c6] fp o _ pe pn pb ai li ki (Rd.gr vD.o (tg D)) (au.o.sub vF.o) (HS.o.grow (tg D)) (dB.o.gr (tg D)) (O.o.2 U (by simp)) (fun s h=>⟨(T.o s h).1,by have:=(T.o s h).2;omega⟩)).mono ?_;rintro e2 I ⟨v,f1,rfl,hv,bH,bL,bR⟩;rw[←vB.o] at bH bL;have gV:=Kz bH;have gX:=Kz bL;have J:=Kz ((MvW.dm (tg D)).trans bR:MvW fp W f1 I);have ae:=Kz ((MvW.dm gd).trans bR:MvW fp B f1 I);have HV:=Kz hv;clear bH bL bR hv;refine Y.out _ _ ae.o.wr (fun vO=>?_);clear Y K
  try simp only[Act.put,uq1,uq2,uq3]
  refine gy [9] ?_
  refine AllReadyH.cons rfl (fun K Y=>?_) AllReadyH.nil
  go_simp;refine(Ip HE.o HG.o zy.o v 8 q1 q2 q3 q4 q5 (some ⟨cb,co,none⟩) 1 cB HV.o vX.o.2.2 LF.o f1 (R1.map (·.2)) _ (pe:=pe) (pn:=pn) (pb:=pb) (ids:=.slice ai li ki) (node:=node) gV.o (dB.o.mv J.o) (fun s h=>⟨(cO.o s h).1.1,by have:=(cO.o s h).2;omega⟩)).mono ?_;rintro e9 w4 X;have bX:=Kz (X.lift (W:=W) J.o (HR.o.trans (GY (F:=fun a s=>if zB g t (dQ t a)=q4 then G s (gL L (a,q5)) by_ else some (0,s)) gX.o)));obtain⟨v4,f4,rfl,-,-,-,dV⟩:=X;have fe:Wr fp B w4:=(ae.o.trans dV).wr;clear dV;refine Y.out _ _ fe (fun ze=>?_);clear Y K fe
  try simp only[Act.put,uq1,uq2,uq3]
  refine aK 10 4 ?_
  refine wpAnyH_done (by kernel_rfl) ?_ _
  skip;go_wp2_with fail;go_ret;exact bX.o
theorem Fb(E:EnvD w0 g t L ag0 kg0 ag1 kg1 at_ kt aL kL){G:Eng→Int→Int→Res}{m:Nat}(D:FT w0 (.slice ag0 g.1.length kg0) (.slice ag1 g.2.length kg1) (.slice at_ t.length kt) (.slice aL L.length kL) L L.length bz bv bk bs br f G)(q:KpG L G)(B:by_<L.length)(h:node<t.length)(hm:t[node].2.2.2.2.2.length=m):
  ∀n,EvI w0 g t L ag0 kg0 ag1 kg1 at_ kt aL kL bz bv bk bs br f G node by_ m n
 |0=>fun x=>PEmpty.elim x
 |n+1=>JO E D q B h hm (Fb E D q B h hm n)
end
end Go.Proofs.YtleafadpfeibfaaGreat
