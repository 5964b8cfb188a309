/- Contracts and laws towards ReadsOf, part 41 of 54. No condition. -/
import Derived.Test.YtleafadpfeibfaaGreatRx41
import Derived.Test.YtleafadpfeibfaaGreatRx37
set_option maxHeartbeats 32000000
set_option maxRecDepth 10000
set_option linter.unusedVariables false
set_option linter.unusedSimpArgs false
namespace Go.Proofs.YtleafadpfeibfaaGreat
open Go.RowKit
variable{d:Nat}
theorem zX{g:af d}(h:jI g):∀r∈g.2,j3 r:=h.1.2.2.1.2.2.1
theorem Ch{rs:List (aW d)}{n:ByteArray}{r:aW d}(h:dJ rs n=some r):r∈rs:=List.mem_of_find?_eq_some h
theorem Ew{g:af d}{t:List aT}(h:jI g)(ht:fP g t=true){node:Nat}(hn:node<t.length):(nT g t node).length≤2∧∀c∈nT g t node,(jh (fun{d} y=>NdP t[node].2.2.2.2.2.length y) (d+1) c.2.2.1∧jh (fun{d} y=>NdP t[node].2.2.2.2.2.length y) (d+1) c.2.2.2)∧cZ (d+1) c.2.2.1≤24∧cZ (d+1) c.2.2.2≤24:=by
 obtain⟨h1,r,q,B,J⟩:=qA ht hn;have hr:=zX h r (Ch q);have e:nT g t node=r.2.2.2.2.2:=by unfold nT;rw[gG hn];simp only;rw[q];rfl
 rw[e,B];refine⟨hr.2.2.2.1,fun c hc=>?_⟩;obtain⟨-,-,D,I⟩:=hr.2.2.2.2.2.2 c hc;have f1:=AA D;have f2:=AA I;exact⟨⟨f1.1,f2.1⟩,f1.2,f2.2⟩
theorem G5{g:af d}{t:List aT}(h:jI g)(ht:fP g t=true):ED g t:=by
 intro node
 by_cases hn:node<t.length
 ·have:=Ew h ht hn
  exact⟨this.1,fun c hc=>(this.2 c hc).2⟩
 ·have e:nT g t node=[]:=by unfold nT;rw[jY (by omega)]
  rw[e];exact⟨by simp,by simp⟩
theorem Gb{g:af d}{t:List aT}(h:jI g)(ht:fP g t=true){x:av}{p:ig d}(B:zV g t x=some p):
  ∃m:Nat,p.1=(m:Int)∧∃hm:m<t.length,jh (fun{d} y=>NdP t[m].2.2.2.2.2.length y) (d+1) p.2∧cZ (d+1) p.2≤24:=by
 have key:∀(o q:Int) (n:ByteArray),KL g t o q n=some p→∃m:Nat,p.1=(m:Int)∧∃hm:m<t.length,jh (fun{d} y=>NdP t[m].2.2.2.2.2.length y) (d+1) p.2∧cZ (d+1) p.2≤24:=by
  intro o q n D
  by_cases J:o<0∨(t.length:Int) - 1<o
  ·rw[mQ J] at D;cases D
  ·obtain⟨m,rfl⟩:∃m:Nat,o=m:=⟨o.toNat,by omega⟩
   have hm:m<t.length:=by omega
   obtain⟨h1,r,I,K,U⟩:=qA ht hm;have hr:=zX h r (Ch I);rw[oF hm (y:=r) (by rw[I];rfl)] at D;obtain⟨e,he,rfl⟩:=Option.map_eq_some_iff.1 D;refine⟨m,rfl,hm,?_⟩;rw[K];obtain⟨q,O,rfl⟩:=Option.map_eq_some_iff.1 he;obtain⟨-,-,T⟩:=hr.2.2.2.2.2.1 q (List.mem_of_find?_eq_some O);exact AA T
 unfold zV at B
 split at B
 ·cases B
 ·split at B
  ·cases B
  ·split at B
   ·split at B
    ·cases B
    ·exact key _ _ _ B
   ·exact key _ _ _ B
abbrev ImG(w0:World)(g:af d)(t:List aT)(L:List av)(ag0:Option Addr)(kg0:Nat)(ag1:Option Addr)(kg1:Nat)(at_:Option Addr)(kt:Nat)(aL:Option Addr)(kL:Nat)(bz bv bk bs br f:Nat):List Nat→Option Eng→World→Prop:=
 ImS w0 (.slice ag0 g.1.length kg0) (.slice ag1 g.2.length kg1) (.slice at_ t.length kt) (.slice aL L.length kL) L L.length bz bv bk bs br f
structure RdB(t:List aT)(bz node by_ pe pn pb:Nat)(ids:Value)(fp:List Nat)(W:World):Prop where
 he:az W pe 80 [.pointer (some ⟨bz,0,none⟩)]
 hn:az W pn 3 [.int .i64 (node:Int)]
 hb:az W pb 3 [.int .i64 (by_:Int)]
 hi:∃fi,SlR fi W ids (iB t (node:Int))∧Ap fi fp
 ne:pe∉fp∧pn∉fp∧pb∉fp
section
variable{t:List aT}{bz node by_ pe pn pb:Nat}{ids:Value}{fp fq:List Nat}{W W':World}
theorem RdB.mv(h:RdB t bz node by_ pe pn pb ids fp W)(m:MvW fp W fq W'):RdB t bz node by_ pe pn pb ids fq W':=by
 obtain⟨B,h1,q⟩:=h.hi;exact⟨m.row h.he h.ne.1,m.row h.hn h.ne.2.1,m.row h.hb h.ne.2.2,⟨B,m.sl h1 q,m.apart q h1.lt⟩,m.o h.he.lt h.ne.1,m.o h.hn.lt h.ne.2.1,m.o h.hb.lt h.ne.2.2⟩
theorem RdB.gr(h:RdB t bz node by_ pe pn pb ids fp W)(g:Gr W W'):RdB t bz node by_ pe pn pb ids fp W':=h.mv (MvW.dm g)
end
abbrev JH(pe pn pb:Nat)(lit:Int)(ids:Value):Array Value:=
 #[.func (.func 144) #[] #[.pointer (some ⟨pe,0,none⟩),.pointer (some ⟨pn,0,none⟩),.pointer (some ⟨pb,0,none⟩)],.func (.func 146) #[] #[.pointer (some ⟨pe,0,none⟩),.pointer (some ⟨pb,0,none⟩)],.int .i64 lit,ids]
theorem Got.have{S:List Nat→Option Eng→World→Prop}{fp fq:List Nat}{W w':World}{v:Int}{o:Option Eng}(hv:(Lit.int .i64 v).wf=true)(q:S fq o w')(hm:MvW fp W fq w'):Got S fp W (o.bind fun s=>some (v,s)) (.returned (.int .i64 v)) w':=by
 cases o with
 |none=>exact⟨v,fq,rfl,hv,q,fun p h=>(by cases h),hm⟩
 |some s=>exact⟨v,fq,rfl,hv,q,fun p h=>(by obtain rfl:=Option.some.inj h;rfl),hm⟩
theorem GY{R1:Res}{F:Int→Eng→Res}{v:Int}(h1:∀p,R1=some p→p.1=v):(R1.bind fun p=>F p.1 p.2)=(R1.map (·.2)).bind (F v):=by
 cases R1 with
 |none=>rfl
 |some p=>
  obtain rfl:=h1 p rfl;rfl
theorem FY{g:af d}{t:List aT}{i:Int}(h:i<0):zB g t i=ByteArray.empty:=by unfold zB;rw[jY (.inl h)]
section
variable{w0:World}{g:af d}{t:List aT}{L:List av}{ag0:Option Addr}{kg0:Nat}{ag1:Option Addr}{kg1:Nat}{at_:Option Addr}{kt:Nat}{aL:Option Addr}{kL:Nat}{bz bv bk bs br f:Nat}
theorem Jj(E:EnvD w0 g t L ag0 kg0 ag1 kg1 at_ kt aL kL){G:Eng→Int→Int→Res}{node by_:Nat}(hG:FT w0 (.slice ag0 g.1.length kg0) (.slice ag1 g.2.length kg1) (.slice at_ t.length kt) (.slice aL L.length kL) L L.length bz bv bk bs br f G)(ae:by_<L.length)(X:node<t.length)(q2:Int)(q5:ByteArray)(ah:(Lit.int .i64 q2).wf=true)(ai:q5.size≤maxLen)
  (fp:List Nat) (o:Option Eng) (W:World) {pe pn pb:Nat} {ids:Value} (hS:ImG w0 g t L ag0 kg0 ag1 kg1 at_ kt aL kL bz bv bk bs br f fp o W) (Z:RdB t bz node by_ pe pn pb ids fp W) (hb:∀s,o=some s→s.busy by_∧(s.reads.getD by_ []).length<2000):
  Calls Tryz.prog 144 #[.agg #[.int .i64 q2,.string q5],.pointer (some ⟨pe,0,none⟩),.pointer (some ⟨pn,0,none⟩),.pointer (some ⟨pb,0,none⟩)] W (Got (ImG w0 g t L ag0 kg0 ag1 kg1 at_ kt aL kL bz bv bk bs br f) fp W (o.bind fun s=>G s (gL L ((KF t (node:Int) (q2,q5)).getD iN)) by_)):=by
 have HE:=Kz E;have HG:=Kz hG;have HS:=Kz hS;have HW:=Kz (And.intro ah ai);have HB:=Kz hb;have ax:=Kz ae;obtain⟨s,cyc,hc,-⟩:=hS.core;have HC:=Kz hc;obtain⟨y0,y1,y2,y3,y9⟩:=hc.fixed;obtain⟨Y,hY⟩:=nm ((KF t (node:Int) (q2,q5)).getD iN);rw[←hY];have ay:=Kz hY;have r0:W.cell? ⟨pe,0,none⟩=some (.pointer (some ⟨bz,0,none⟩)):=Z.he.c 0;have r1:W.cell? ⟨pn,0,none⟩=some (.int .i64 (node:Int)):=Z.hn.c 0;have r2:W.cell? ⟨pb,0,none⟩=some (.int .i64 (by_:Int)):=Z.hb.c 0;clear E hG hS ah ai hb hc hY Z ae;go_in;go_wp2_with fail;obtain⟨B,hB⟩:=nm (W.alloc (.cells #[.int .i64 q2,.string q5] 181));rw[←hB];have q:Gr W B:=by rw[hB];exact gd
 have VB:=Kz (show az B W.heap.size 181 [.int .i64 q2,.string q5] by rw[hB];exact az.new rfl);have I:=Kz q;obtain⟨x0,x1⟩:=VB.o.c2;have u0:=q.keep y0;have u1:=q.keep y1;have u2:=q.keep y2;have v0:=q.keep r0;have v1:=q.keep r1;have v2:=q.keep r2;have k0:=fun(w':World) (h:Gr B w')=>(⟨h.keep u0,h.keep u1,h.keep u2,h.keep x0,h.keep x1,h.keep v0,h.keep v1⟩:_∧_∧_∧_∧_∧_∧_)
 clear hB q y0 y1 y2 y3 y9 r0 r1 r2
 go_cut [6] (fun s6 wr=>Gm B Y s6 wr)
 case first=>
  obtain⟨fg,hg⟩:=HE.o.hg;obtain⟨ft,ht⟩:=HE.o.ht;have aZ:=Kz hg;have bg:=Kz ht;clear hg ht
  go_region_held3 (fun w'=>Gr B w') (exact ga)
   (first|(go_at_call 145;refine(yN g t node (q2,q5) _ (Rd.gr aZ.o ((HC.o.gr.trans I.o).trans gd)) (Rd.gr bg.o ((HC.o.gr.trans I.o).trans gd)) (bO q2 q5 HW.o.1 HW.o.2) X).mono ?_;rintro e w' ⟨es,fq,rfl,hr,bL,z9,rfl⟩;obtain⟨p0,p1,hyp,rfl,-,J,K⟩:=K7 (x:=(KF t (node:Int) (q2,q5)).getD iN) hr;have bq:=Kz hyp;have bR:=Lt hyp hr;clear hr hyp;obtain⟨bb,O⟩:∃b:Bool,b=(KF t (node:Int) (q2,q5)).isSome:=⟨_,rfl⟩;rw[←O];have bX:=Kz O;clear O))
  all_goals
   go_wp2_with fail;go_meet;have bB:Y=(p0,p1):=ay.o.trans bq.o.symm;rw[bB]
   first
    |exact⟨_,rfl,gd,az.new (by simp),by simp,J,K⟩
    |exact⟨_,rfl,gd,(az.new (A:=B) rfl).gr gd,Nat.le_refl _,J,K⟩
    |exact⟨_,rfl,gd,(az.new (by simp)).gr gd,by simp,J,K⟩
 case rest=>
  obtain⟨b9,rfl,g9,v9,bH,T,U⟩:=hcut
  rename World=>D
  obtain⟨p0,p1⟩:=Y;have aj:=Kz (And.intro T U);have ak:=Kz (I.o.trans g9);obtain⟨c0,c1⟩:=v9.c2;have d0:=g9.keep v0;have d2:=g9.keep v2;clear k0 x0 x1 u0 u1 u2 v0 v1 v2 g9 v9 bH T U;go_wp2_with fail;refine(HG.o fp o _ (p0,p1) by_ aj.o.1 aj.o.2 (HS.o.grow (tg ak)) (.inr ⟨by have:=ax.o;omega,fun s h=>by have:=HB.o s h;simpa using this⟩)).mono ?_;rintro e w4 V;have au:=Kz (V.lift (W:=W) (MvW.dm (tg ak)) rfl);obtain⟨v4,f4,rfl,-⟩:=V;go_wp2_with fail;go_ret;exact au.o
theorem Ip(E:EnvD w0 g t L ag0 kg0 ag1 kg1 at_ kt aL kL){G:Eng→Int→Int→Res}{node by_:Nat}(hG:FT w0 (.slice ag0 g.1.length kg0) (.slice ag1 g.2.length kg1) (.slice at_ t.length kt) (.slice aL L.length kL) L L.length bz bv bk bs br f G)(ai:by_<L.length)(v q0 q1 q2 q3:Int)(q4 q5:ByteArray)(aq:Option Addr)(lq kq:Nat)(hv:(Lit.int .i64 v).wf=true)(aj:q5.size≤maxLen)(ak:q4≠ByteArray.empty)
  (fp:List Nat) (o:Option Eng) (W:World) {pe pn pb:Nat} {ids:Value} (hS:ImG w0 g t L ag0 kg0 ag1 kg1 at_ kt aL kL bz bv bk bs br f fp o W) (hR:RdB t bz node by_ pe pn pb ids fp W) (hb:∀s,o=some s→s.busy by_∧(s.reads.getD by_ []).length<2000):
  Calls Tryz.prog 146 #[.int .i64 v,.agg #[.int .i64 q0,.int .i64 q1,.int .i64 q2,.int .i64 q3,.string q4,.string q5,.slice aq lq kq],.pointer (some ⟨pe,0,none⟩),.pointer (some ⟨pb,0,none⟩)] W (Got (ImG w0 g t L ag0 kg0 ag1 kg1 at_ kt aL kL bz bv bk bs br f) fp W (o.bind fun s=>if zB g t (dQ t v)=q4 then G s (gL L (v,q5)) by_ else some (0,s))):=by
 have HE:=Kz E;have HG:=Kz hG;have HS:=Kz hS;have HW:=Kz (And.intro hv aj);have HB:=Kz hb;have aZ:=Kz ai;have bg:=Kz ak;obtain⟨s,cyc,hc,-⟩:=hS.core;have HC:=Kz hc;obtain⟨y0,y1,y2,y3,y9⟩:=hc.fixed;have r0:W.cell? ⟨pe,0,none⟩=some (.pointer (some ⟨bz,0,none⟩)):=hR.he.c 0;have r2:W.cell? ⟨pb,0,none⟩=some (.int .i64 (by_:Int)):=hR.hb.c 0;obtain⟨B,hB⟩:=nm (W.alloc (.cells #[.int .i64 q0,.int .i64 q1,.int .i64 q2,.int .i64 q3,.string q4,.string q5,.slice aq lq kq] 165));have J:Gr W B:=by rw[hB];exact gd
 have VB:=Kz (show az B W.heap.size 165 [.int .i64 q0,.int .i64 q1,.int .i64 q2,.int .i64 q3,.string q4,.string q5,.slice aq lq kq] by rw[hB];exact az.new rfl);have q:=Kz J;have x4:B.cell? ⟨W.heap.size,4,none⟩=some (.string q4):=VB.o.c 4;have x5:B.cell? ⟨W.heap.size,5,none⟩=some (.string q5):=VB.o.c 5;have u0:=J.keep y0;have u1:=J.keep y1;have u2:=J.keep y2;have v0:=J.keep r0;have v2:=J.keep r2;have zx:=blk x4;have zu:=blk u0;have bq:=blk v0;have bB:=blk v2;obtain⟨K,V⟩:=nm (dQ t v);obtain⟨O,X⟩:=nm (zB g t K);have au:=Kz X;rw[←V,←X];obtain⟨bH,T⟩:=nm (o.bind fun s=>if O=q4 then G s (gL L (v,q5)) by_ else some (0,s));rw[←T];have U:=Kz T;clear T
 have ax:Ky (Qz 141 #[.agg #[.slice at_ t.length kt],.int .i64 v] B (.int .i64 K)):=Kz (by
  rw[V];obtain⟨ft,ht⟩:=HE.o.ht;exact ji t v _ (Rd.gr ht (HC.o.gr.trans q.o)))
 have bL:=blk r0;have bR:=blk y0;clear E hG hS hv aj hb hc hR ai ak V X J;go_in;go_wp2_with fail;rw[←hB];clear hB y0 y1 y2 y3 y9 r0 r2 bL bR;refine ax.o.mono ?_;rintro e D ⟨rfl,g1⟩;replace q:=Kz (q.o.trans g1);replace x4:=g1.keep x4;replace x5:=g1.keep x5;replace u0:=g1.keep u0;replace u1:=g1.keep u1;replace u2:=g1.keep u2;replace v0:=g1.keep v0;replace v2:=g1.keep v2;have zx:=blk x4;have zu:=blk u0;have bq:=blk v0;have bB:=blk v2;clear VB g1 ax
 have bX:Ky (∀x:Ext,Qz 87 #[.agg #[.slice ag0 g.1.length kg0,.slice ag1 g.2.length kg1],.agg #[.slice at_ t.length kt],.int .i64 K] (D.ext x) (.string O)):=Kz (fun x=>by
  rw[au.o];obtain⟨fg,hg⟩:=HE.o.hg;obtain⟨ft,ht⟩:=HE.o.ht;exact jM g t K _ (Rd.gr hg (HC.o.gr.trans (tg q))) (Rd.gr ht (HC.o.gr.trans (tg q))))
 by_cases I:K<0
 ·have hd:decide (K<0)=true:=by simpa using I
  have Y:=Kz (show¬O=q4 from fun e=>bg.o (by rw[←e,au.o];exact FY I));clear I;go_wp2_with fail;refine wg ?_
  iterate 17 (go_big_quiet_step (fail))
  refine wpQuiet_nil ?_
  intro _ Z
  obtain⟨nx,ae⟩:=Z;subst ae;go_wp2_with fail;go_ret;rw[U.o];simp only[if_neg Y.o];exact Got.have (by decide) (HS.o.grow (tg q)) (MvW.dm (tg q))
 ·have hd:decide (K<0)=false:=by simpa using I
  clear I;go_wp2_with fail;refine wg ?_
  iterate 17 (go_big_quiet_step (first|(go_at_call 87;exact aG (bX.o _))))
  refine wpQuiet_nil ?_
  intro _ Z
  obtain⟨nx,ae⟩:=Z;subst ae;go_wp2_with fail
  ·have Y:=Kz (show¬O=q4 from fun e=>by
    have he:(!(O.toList==q4.toList))=true:=by assumption
    rw[e] at he;simp at he)
   go_ret;rw[U.o];simp only[if_neg Y.o];exact Got.have (by decide) (HS.o.grow (tg q)) (MvW.dm (tg q))
  ·have cB:=Kz (show O=q4 from str_inj (by
    have he:(!(O.toList==q4.toList))=false:=by assumption
    simpa using he))
   have cK:=Kz (show bH=o.bind fun s=>G s (gL L (v,q5)) by_ by rw[U.o];simp only[if_pos cB.o]);refine(HG.o fp o _ (v,q5) by_ HW.o.1 HW.o.2 (HS.o.grow (tg q)) (.inr ⟨by have:=aZ.o;omega,fun s h=>by have:=HB.o s h;simpa using this⟩)).mono ?_;rintro e w4 ah;have ay:=Kz (ah.lift (W:=W) (MvW.dm (tg q)) cK.o);obtain⟨v4,f4,rfl,-⟩:=ah;go_wp2_with fail;go_ret;exact ay.o
end
end Go.Proofs.YtleafadpfeibfaaGreat
namespace Go.Proofs.YtleafadpfeibfaaGreat
open Go.RowKit
variable{d:Nat}
set_option maxRecDepth 100000 in
theorem CZ{fg:List Nat}{cg:Array Value}(g:(af d)){ft:List Nat}{ct:Array Value}(t:fU){fx:List Nat}{cx:Array Value}(x:av)(w:World)(hg:Rd.rd fg w cg.toList g)(ht:Rd.rd ft w ct.toList t)(hx:Rd.rd fx w cx.toList x)(hl:aP g≤1048576):
  Calls Tryz.prog 108 #[.agg cg,.agg ct,.agg cx] w (Found [] w (zV g t x) qW):=by
 have F6:=Kz hl;clear hl;have HG:=Kz hg;obtain⟨g0,g1,ag0,kg0,MW,ag1,kg1,MX,rfl,rfl,-,MZ,MC,ME,M0,MF,MG⟩:=yt hg;clear hg;have HT:=Kz ht;obtain⟨t0,cB,cK,M3,rfl,rfl,-,ik,MH,BM⟩:=K8 ht;have iw:=ik.op3;clear ht;have HX:=Kz hx;obtain⟨J,q,rfl,rfl,-,M4,F8⟩:=K7 hx;clear hx;have Ha:=Kz F8;go_in;go_wp2_with fail;refine(rJ (g0,g1) t0 (J,q) _ (Rd.gr HG.o gd) (Rd.gr HT.o gd) (Rd.gr HX.o gd)).mono ?_;rintro e w' ⟨es,fq,rfl,hr,-,z1,rfl⟩;obtain⟨r0,r1,r2,r3,kr,rfl,-,M5,M6,M7⟩:=Ld (x:=(ed (g0,g1) t0 (J,q)).getD dR) hr;have He:=Kz kr;have M8:=Lt kr hr;clear hr kr;obtain⟨bb,bg⟩:∃b:Bool,b=(ed (g0,g1) t0 (J,q)).isSome:=⟨_,rfl⟩;rw[←bg];have vG:=Kz bg;clear bg;generalize hB:((((w.alloc (.cells #[.slice ag0 g0.length kg0,.slice ag1 g1.length kg1] 39)).alloc (.cells #[.slice cB t0.length cK] 43)).alloc (.cells #[.int .i64 J,.string q] 45)).alloc (.cells #[.int .i64 0,.int .i64 0,.int .i64 0,.int .i64 0,.int .i64 0,.string ⟨#[]⟩,.string ⟨#[]⟩,.slice none 0 0] 167)).ext z1=B;have gB:Gr w B:=gb hB;obtain⟨HV,HY⟩:=kb2 hB (w.heap.size) (.slice ag0 g0.length kg0) (.slice ag1 g1.length kg1);have vL:=kb hB (w.heap.size+1) 0 (.slice cB t0.length cK);obtain⟨vX,HZ⟩:=kb2 hB (w.heap.size+1+1) (.int .i64 J) (.string q);obtain⟨wL,M9⟩:=kb2 hB (w.heap.size+2) (.int .i64 J) (.string q);have sB:B.heap.size=w.heap.size+4+z1.objs.size:=szB hB;have EB:=Kz hB;clear hB;have ku:Ky (az B (w.heap.size+1+1+1) 167 [.int .i64 0,.int .i64 0,.int .i64 0,.int .i64 0,.int .i64 0,.string ⟨#[]⟩,.string ⟨#[]⟩,.slice none 0 0]):=Kz (az.gr (w:=(((w.alloc (.cells #[.slice ag0 g0.length kg0,.slice ag1 g1.length kg1] 39)).alloc (.cells #[.slice cB t0.length cK] 43)).alloc (.cells #[.int .i64 J,.string q] 45)).alloc (.cells #[.int .i64 0,.int .i64 0,.int .i64 0,.int .i64 0,.int .i64 0,.string ⟨#[]⟩,.string ⟨#[]⟩,.slice none 0 0] 167)) (by unfold az;simpa using heap_alloc_new (((w.alloc (.cells #[.slice ag0 g0.length kg0,.slice ag1 g1.length kg1] 39)).alloc (.cells #[.slice cB t0.length cK] 43)).alloc (.cells #[.int .i64 J,.string q] 45)) (.cells #[.int .i64 0,.int .i64 0,.int .i64 0,.int .i64 0,.int .i64 0,.string ⟨#[]⟩,.string ⟨#[]⟩,.slice none 0 0] 167)) (by rw[←EB.o];exact gd));clear sB;have D:=Kz gB
 cases bb with
 |false=>
  have K:zV (g0,g1) t0 (J,q)=none:=wG (iK vG.o.symm);obtain rfl:=EB.o;have T:=Kz K;clear K;go_wp2_with fail
  exact bodyPost_ret (v:=.tuple #[.agg #[.int .i64 0,.int .i64 0,.int .i64 0,.int .i64 0,.int .i64 0,.string ⟨#[]⟩,.string ⟨#[]⟩,.slice none 0 0],.bool false])
   (by simp[results,Tryz.results108,go_sem]) rfl ⟨_,_,by rw[T.o];rfl,by rw[T.o];exact ja _,by simp,(D.o).trans gd⟩
 |true=>
  have bq:ed (g0,g1) t0 (J,q)=some (r0,r1,r2,r3):=jw vG.o.symm He.o.symm
  by_cases ky:r2=3
  ·have K:zV (g0,g1) t0 (J,q)=none:=wV bq ky
   subst ky;clear bq;obtain rfl:=EB.o;have T:=Kz K;clear K;go_wp2_with fail
   exact bodyPost_ret (v:=.tuple #[.agg #[.int .i64 0,.int .i64 0,.int .i64 0,.int .i64 0,.int .i64 0,.string ⟨#[]⟩,.string ⟨#[]⟩,.slice none 0 0],.bool false])
    (by simp[results,Tryz.results108,go_sem]) rfl ⟨_,_,by rw[T.o];rfl,by rw[T.o];exact ja _,by simp,(D.o).trans gd⟩
  ·obtain⟨n,hn,w9⟩:=Fe bq
   have HN:=Kz hn;have xc:=Kz bq;clear hn bq;go_wp2_with fail;generalize hC:B.alloc (.cells #[.string r0,.int .i64 r1,.int .i64 r2,.bool r3] 144)=C;have ak:Gr B C:=gb hC;have lq:C.cell? ⟨B.heap.size,2,none⟩=some (.int .i64 r2):=by rw[←hC];exact kd
   clear hC;have H5:=Kz (gB.trans ak);have k0:=fun(w':World) (h:Gr C w')=>vL _ (ak.trans h)
   have k1:=fun(w':World) (h:Gr C w')=>vX _ (ak.trans h)
   have k2:=fun(w':World) (h:Gr C w')=>HZ _ (ak.trans h)
   have k3:=fun(w':World) (h:Gr C w')=>wL _ (ak.trans h)
   go_cut [10,11] (fun bB IV wr=>Jq C 181 (n:Int) 0 q bB IV wr)
   case first=>
    go_region_held3 (fun w'=>Gr C w') (exact ga)
     (first|(go_at_call 141;refine(ji t0 J _ (Rd.gr HT.o (H5.o.trans ga))).mono ?_;rintro e w' ⟨rfl,x2,rfl⟩;rw[HN.o]))
    all_goals
     go_wp2_with fail;go_meet;refine⟨_,_,rfl,Kz rfl,rfl,by first|omega|(simp;done)|(simp;omega),gd,?_⟩;exact kv
   case rest=>
    obtain⟨O,bH,rfl,cO,rfl,oH,dB,vO⟩:=hcut;obtain⟨ax,ay⟩:=vO.c2;have dS:=Kz vO;clear vO
    rename World=>W6
    have oL:=dB.keep lq;have gT:=ak.trans dB;have E5:=Kz dB;clear k0 k1 k2 k3 dB
    go_upto_if 39 with fail
    go_cut [10] (fun bB wr=>∃O PZ,bB=.int .i64 O∧Ky (zV (g0,g1) t0 (J,q)=KL (g0,g1) t0 O PZ q)∧Ky ((Lit.int .i64 PZ).wf=true)∧Ky (Gr B wr)∧Ky (az wr bH 181 [.int .i64 PZ,.string q]))
    case first=>
     by_cases x9:r2=1
     ·subst x9
      have aZ:=w9;have dV:=gB.trans gT;obtain⟨b,off,rfl,bg⟩:=iw n aZ;obtain⟨q0,q1,q2,q3,q4,q5,Na,Nb,Nc,Nf,KX,Ng,K3,K4,yc,K6,La,Li,MI,MJ,Lj,Lm,Ls,Lv,Lx,LA,Nh⟩:=KZ ik aZ dV;have j0:(0:Int)≤(n:Int):=by omega
      have j1:(n:Int)<(t0.length:Int):=by omega
      have LB:O=n:=cO.o;subst LB;have LC:=dS.o.frozen 0;go_wp2_with fail;have LD:=Kz ak
      go_cut [10] (fun bB wr=>Jq C 181 q1 q2 q bB (.pointer (some ⟨bH,0,none⟩)) wr)
      case first=>
       go_region
       all_goals
        go_wp2_with fail;go_meet;refine⟨_,_,rfl,Kz rfl,rfl,oH,(Gr.setCell (p:=⟨bH,0,none⟩) E5.o oH (.int .i64 q2)).drew,?_⟩;exact az.gr (dS.o.set 0 (.int .i64 q2)) (Gr.drew (Gr.refl _))
      case rest=>
       obtain⟨O,b',rfl,cO,LF,MB,yu,vO⟩:=hcut
       rename World=>W7
       obtain rfl:bH=b':=by simpa using LF
       have aj:zV (g0,g1) t0 (J,q)=KL (g0,g1) t0 O q2 q:=by
        have h1:=zw xc.o rfl HN.o w9;rw[←KX.o] at h1;rw[cO.o];exact h1
       have bL:=Kz yc;clear Lj Lm Ls Lv Lx LA LC ax ay lq oL gT j0 j1 dS;obtain⟨ax,ay⟩:=vO.c2;have gT:=LD.o.trans yu;have FX:=Kz vO;clear K3 K4 yc K6 La Li vO yu;go_wp2_with fail;go_meet;exact⟨O,q2,rfl,Kz aj,bL,Kz (gT.trans gd),Kz ((show az _ bH 181 [.int .i64 q2,.string q] from FX.o).gr gd)⟩
     ·have aj:zV (g0,g1) t0 (J,q)=KL (g0,g1) t0 O 0 q:=by rw[cO.o];exact(zQ xc.o ky x9).trans (by rw[HN.o])
      have bL:=Kz (show(Lit.int .i64 0).wf=true by decide);go_wp2_with fail;go_meet;exact⟨O,0,rfl,Kz aj,bL,Kz (gT.trans gd),Kz (dS.o.gr gd)⟩
    case rest=>
     clear ax ay lq oL gT;obtain⟨O,PZ,rfl,LG,bL,LH,LJ⟩:=hcut
     rename World=>W7
     have aj:=LG.o;have gT:=LH.o;obtain⟨ax,ay⟩:=LJ.o.c2;have D:=Kz (gB.trans gT);have y0:=HV _ gT;have y1:=HY _ gT;have y2:=vL _ gT;have y3:=vX _ gT;have y5:=wL _ gT
     by_cases o5:0≤O∧O≤(t0.length:Int) - 1
     ·obtain⟨m,rfl⟩:∃m:Nat,O=m:=⟨O.toNat,by omega⟩
      have aZ:m<t0.length:=by omega
      have y7:=Kz aj;have y8:=Kz o5;clear aj o5;have dV:=D.o;obtain⟨b,off,rfl,bg⟩:=iw m aZ;obtain⟨p0,p1,p2,p3,p4,p5,Ni,Nj,Nk,Nl,LK,Nn,Np,Nq,Nr,Ns,Nt,Nu,MK,ML,LM,LP,LQ,LU,y9,LV,Nv⟩:=KZ ik aZ dV;have j0:(0:Int)≤(m:Int):=by omega
      have j1:(m:Int)<(t0.length:Int):=by omega
      obtain⟨Y,hY⟩:=nm ((dJ g1 p4).getD fH);have za:=oF (g:=(g0,g1)) (p:=PZ) (n:=q) (y:=Y) aZ (by rw[←LK.o];exact hY);have zb:bF Y≤1048576:=by rw[hY];exact wh F6.o p4
      have ze:=Kz za;have LW:=Kz zb;have LX:=Kz hY;clear hY za zb dV;go_wp2_with fail;refine(gQ t0 (m:Int) _ (Rd.gr HT.o (tg D)) y8.o.1 y8.o.2).mono ?_;rintro e W8 ⟨rfl,g8⟩;go_wp2_with fail;have u0:=g8.keep y0;have u1:=g8.keep y1;have u2:=g8.keep y2;have u3:=g8.keep y3;have zf:=g8.keep ax;have zg:=g8.keep ay;have uq:=g8.keep y9;have zl:=Kz (D.o.trans g8);have LY:=Kz (gT.trans g8);have Nw:=blk u3;have LZ:=fun(w':World) (h:Gr W8 w')=>(⟨h.keep u0,h.keep u1,h.keep u2,h.keep uq⟩:_∧_∧_∧_)
      clear y0 y1 y2 y3 y5 ax ay LM LP LQ LU y9 LV g8
      go_cut [12] (fun s wr=>EP W8 Y s wr)
      case first=>
       go_region_held3 (fun w'=>Gr W8 w') (exact ga)
        (first|(go_at_call 118;refine(iL (g0,g1) p4 _ (Rd.gr HG.o (zl.o.trans ga))).mono ?_;rintro e w' ⟨es,fq,rfl,hr,fe,x2,rfl⟩;obtain⟨s0,s1,s2,s3,s4,s5,L6,L8,L9,Ma,Mc,Md,Me,Mf,Mg,o9,rfl,-,zn,zo,zq,MM,MN,zu,MO,MP,zx,MQ,MR⟩:=KV (x:=(dJ g1 p4).getD fH) hr;have Mh:=Kz o9;have fu:=Lt o9 hr;clear hr o9;obtain⟨b2,qb⟩:∃b:Bool,b=(dJ g1 p4).isSome:=⟨_,rfl⟩;rw[←qb];have Ny:=Kz qb;clear qb))
       all_goals
        go_wp2_with fail;go_meet;have hY:Y=(s0,s1,s2,s3,s4,s5):=LX.o.trans Mh.o.symm;subst hY;have q8:∀c∈fq,c<w.heap.size∨_≤c:=fun c hc=>(fe c hc).imp (Rd.lt HG.o c) id
        refine⟨_,[.string s0,.string s1,.slice L6 s2.length L8,.bool s3,.slice Ma s4.length Mc,.slice Me s5.length Mf],fq,rfl,gd,fun j u hj=>?_,?_,by first|omega|(simp;done)|(simp;omega)⟩
        ·match j,hj with
         |0,hj=>obtain rfl:=Option.some.inj hj;exact kd
         |1,hj=>obtain rfl:=Option.some.inj hj;exact kd
         |2,hj=>obtain rfl:=Option.some.inj hj;exact kd
         |3,hj=>obtain rfl:=Option.some.inj hj;exact kd
         |4,hj=>obtain rfl:=Option.some.inj hj;exact kd
         |5,hj=>obtain rfl:=Option.some.inj hj;exact kd
        ·first
          |(refine Rd.gr fu.o ?_;(repeat(first|exact Gr.refl _|apply Gr.ext|apply Gr.alloc|apply Gr.drew));done)
          |((with_reducible refine Rd.mono (dO ?_) fu.o);exact fun c hc e=>by subst e;have:=q8 _ hc;simp at this;omega)
          |((with_reducible refine Rd.mono (dM ?_) fu.o);exact fun c hc e=>by subst e;have:=q8 _ hc;simp at this;omega)
          |((with_reducible refine Rd.mono (iT ?_) fu.o);exact fun c hc e=>by subst e;have:=q8 _ hc;simp at this;omega)
      case rest=>
       obtain⟨Nz,F4,f12,rfl,g9,au,q9,MS⟩:=hcut
       rename World=>W9
       obtain⟨s0,s1,s2,s3,s4,s5⟩:=Y;obtain⟨NA,L9,NB,Md,NC,Mg,zy,-,zn,zo,zq,zu,zx⟩:=aM (cs:=F4.toArray) s0 s1 s2 s3 s4 s5 (by simpa using q9);obtain rfl:=toL zy;have Mi:=Kz q9;have c0:=au 0 _ rfl;have c1:=au 1 _ rfl;have c2:=au 2 _ rfl;have c3:=au 3 _ rfl;have c4:=au 4 _ rfl;have c5:=au 5 _ rfl;have ND:=blk c0;have NF:=g9.keep zf;have NG:=g9.keep zg;have sO:=Kz (zl.o.trans g9);have zH:=Kz (LY.o.trans g9);have Mj:=Kz (az.gr ku.o zH.o).lt;clear au q9 zy LZ u0 u1 u2 u3 zf zg uq g9 zn zo zq zu zx;go_wp2_with fail;refine(oK (s0,s1,s2,s3,s4,s5) (PZ,q) _ (Rd.gr Mi.o gd) (bO PZ q bL.o Ha.o) LW.o).mono ?_;rintro e gD ⟨es,fq,rfl,hr,fe,g10⟩;obtain⟨e0,e1,e2,e3,e4,e5,e6,bR,bX,NH,uf,rfl,zL,Mk,Ml,Mm,Mo,Mq,Mr,zO,MU,MV⟩:=KU (x:=(il s4 (PZ,q)).getD ng) hr;have Ms:=Kz uf;have NI:=Lt uf hr;clear hr uf;obtain⟨b3,uo⟩:∃b:Bool,b=(il s4 (PZ,q)).isSome:=⟨_,rfl⟩;rw[←uo];have z8:=Kz uo;clear uo;have uz:=Kz (sO.o.trans g10);have F5:=Kz (zH.o.trans g10);have vR:=az.gr ku.o (F5.o);obtain⟨I,U,V,X,Z,ae,ah,ai⟩:=vR.c8;have gV:=vR.frozen;have Mt:=blk I;have gX:=Kz vR;clear vR;clear g10
       cases b3 with
       |false=>
        have K:zV (g0,g1) t0 (J,q)=none:=by rw[y7.o,ze.o,iK z8.o.symm];rfl
        have D:=uz;have T:=Kz K;clear K;go_wp2_with fail;clear I U V X Z ae ah ai gV;generalize hF:(((((((((gD.setCell ⟨w.heap.size+1+1+1,0,none⟩ (.int .i64 0)).setCell ⟨w.heap.size+1+1+1,1,none⟩ (.int .i64 0)).setCell ⟨w.heap.size+1+1+1,2,none⟩ (.int .i64 0)).setCell ⟨w.heap.size+1+1+1,3,none⟩ (.int .i64 0)).setCell ⟨w.heap.size+1+1+1,4,none⟩ (.int .i64 0)).setCell ⟨w.heap.size+1+1+1,5,none⟩ (.string ⟨#[]⟩)).setCell ⟨w.heap.size+1+1+1,6,none⟩ (.string ⟨#[]⟩)).setCell ⟨w.heap.size+1+1+1,7,none⟩ (.slice none 0 0)).alloc (.cells #[.int .i64 e0,.int .i64 e1,.int .i64 e2,.int .i64 e3,.string e4,.string e5,.slice bR e6.length bX] 165))=WF;have vF:az WF (w.heap.size+1+1+1) 167 [.int .i64 0,.int .i64 0,.int .i64 0,.int .i64 0,.int .i64 0,.string ⟨#[]⟩,.string ⟨#[]⟩,.slice none 0 0]:=by rw[←hF];exact(az.ic gX.o _ _ _ _ _ _ _ _).gr (Gr.alloc (Gr.refl _) _)
        have wF:Wr [w.heap.size+1+1+1] gD WF:=by rw[←hF];exact(Wr.ic _ _ _ _ _ _ _ _ _ _).gr (Gr.alloc (Gr.refl _) _)
        have gF:Gr w WF:=by rw[←hF];exact(Gr.ic D.o (by omega) _ _ _ _ _ _ _ _).trans (Gr.alloc (Gr.refl _) _)
        obtain⟨I,U,V,X,Z,ae,ah,ai⟩:=vF.c8;clear hF vF
        exact bodyPost_ret (v:=.tuple #[.agg #[.int .i64 0,.int .i64 0,.int .i64 0,.int .i64 0,.int .i64 0,.string ⟨#[]⟩,.string ⟨#[]⟩,.slice none 0 0],.bool false])
         (by simp[results,Tryz.results108,go_sem,I,U,V,X,Z,ae,ah,ai]) rfl ⟨_,_,by rw[T.o];rfl,by rw[T.o];exact ja _,by simp,gF⟩
       |true=>
        have ve:zV (g0,g1) t0 (J,q)=some ((m:Int),(e0,e1,e2,e3,e4,e5,e6)):=by rw[y7.o,ze.o,jw z8.o.symm Ms.o.symm];rfl
        have vB:=Kz ve;have HM:=Kz (jm (y:=(m:Int)) (by omega) (by have:=BM;omega));have A7:=Kz fe;clear ve fe;have D:=uz;have Mv:=Kz zO;clear zO;go_wp2_with fail;clear I U V X Z ae ah ai gV;generalize hF:(((((((((gD.setCell ⟨w.heap.size+1+1+1,0,none⟩ (.int .i64 m)).setCell ⟨w.heap.size+1+1+1,1,none⟩ (.int .i64 e0)).setCell ⟨w.heap.size+1+1+1,2,none⟩ (.int .i64 e1)).setCell ⟨w.heap.size+1+1+1,3,none⟩ (.int .i64 e2)).setCell ⟨w.heap.size+1+1+1,4,none⟩ (.int .i64 e3)).setCell ⟨w.heap.size+1+1+1,5,none⟩ (.string e4)).setCell ⟨w.heap.size+1+1+1,6,none⟩ (.string e5)).setCell ⟨w.heap.size+1+1+1,7,none⟩ (.slice bR e6.length bX)).alloc (.cells #[.int .i64 e0,.int .i64 e1,.int .i64 e2,.int .i64 e3,.string e4,.string e5,.slice bR e6.length bX] 165))=WF;have vF:az WF (w.heap.size+1+1+1) 167 [.int .i64 m,.int .i64 e0,.int .i64 e1,.int .i64 e2,.int .i64 e3,.string e4,.string e5,.slice bR e6.length bX]:=by rw[←hF];exact(az.ic gX.o _ _ _ _ _ _ _ _).gr (Gr.alloc (Gr.refl _) _)
        have wF:Wr [w.heap.size+1+1+1] gD WF:=by rw[←hF];exact(Wr.ic _ _ _ _ _ _ _ _ _ _).gr (Gr.alloc (Gr.refl _) _)
        have gF:Gr w WF:=by rw[←hF];exact(Gr.ic D.o (by omega) _ _ _ _ _ _ _ _).trans (Gr.alloc (Gr.refl _) _)
        obtain⟨I,U,V,X,Z,ae,ah,ai⟩:=vF.c8;clear hF vF;have Mw:=(Mv.o.wr wF (fun c hc hm=>by have:=(A7.o c (by rw[zL.o];simpa using hc)).resolve_left (by simp);have:=sO.o.size;have:=Mj.o;simp at hm;omega))
        exact bodyPost_ret (v:=.tuple #[.agg #[.int .i64 m,.int .i64 e0,.int .i64 e1,.int .i64 e2,.int .i64 e3,.string e4,.string e5,.slice bR e6.length bX],.bool true])
         (by simp[results,Tryz.results108,go_sem,I,U,V,X,Z,ae,ah,ai]) rfl ⟨_,_,by rw[vB.o];rfl,by rw[vB.o];exact iZ (m:Int) e0 e1 e2 e3 e4 e5 e6 HM.o Mk Ml Mm Mo Mq Mr Mw,fun c hc=>.inr (by have:=(A7.o c (by rw[zL.o];simpa using hc)).resolve_left (by simp);have:=sO.o.size;omega),gF⟩
     ·have vD:O<0∨(t0.length:Int) - 1<O:=by omega
      have K:zV (g0,g1) t0 (J,q)=none:=by rw[aj,mQ vD]
      have Mx:=Kz vD;clear aj vD o5;go_wp2_with fail;refine(lH t0 O _ (Rd.gr HT.o (tg D)) Mx.o).mono ?_;rintro e W8 ⟨rfl,g8⟩;have D:=Kz (D.o.trans g8);have vR:=az.gr ku.o (gT.trans g8);obtain⟨I,U,V,X,Z,ae,ah,ai⟩:=vR.c8;have gV:=vR.frozen;have Mt:=blk I;have gX:=Kz vR;clear vR;clear g8;have T:=Kz K;clear K;go_wp2_with fail;clear I U V X Z ae ah ai gV;generalize hF:((((((((W8.setCell ⟨w.heap.size+1+1+1,0,none⟩ (.int .i64 0)).setCell ⟨w.heap.size+1+1+1,1,none⟩ (.int .i64 0)).setCell ⟨w.heap.size+1+1+1,2,none⟩ (.int .i64 0)).setCell ⟨w.heap.size+1+1+1,3,none⟩ (.int .i64 0)).setCell ⟨w.heap.size+1+1+1,4,none⟩ (.int .i64 0)).setCell ⟨w.heap.size+1+1+1,5,none⟩ (.string ⟨#[]⟩)).setCell ⟨w.heap.size+1+1+1,6,none⟩ (.string ⟨#[]⟩)).setCell ⟨w.heap.size+1+1+1,7,none⟩ (.slice none 0 0))=WF;have vF:az WF (w.heap.size+1+1+1) 167 [.int .i64 0,.int .i64 0,.int .i64 0,.int .i64 0,.int .i64 0,.string ⟨#[]⟩,.string ⟨#[]⟩,.slice none 0 0]:=by rw[←hF];exact(az.ic gX.o _ _ _ _ _ _ _ _).gr (Gr.refl _)
      have wF:Wr [w.heap.size+1+1+1] W8 WF:=by rw[←hF];exact(Wr.ic _ _ _ _ _ _ _ _ _ _).gr (Gr.refl _)
      have gF:Gr w WF:=by rw[←hF];exact(Gr.ic D.o (by omega) _ _ _ _ _ _ _ _).trans (Gr.refl _)
      obtain⟨I,U,V,X,Z,ae,ah,ai⟩:=vF.c8;clear hF vF
      exact bodyPost_ret (v:=.tuple #[.agg #[.int .i64 0,.int .i64 0,.int .i64 0,.int .i64 0,.int .i64 0,.string ⟨#[]⟩,.string ⟨#[]⟩,.slice none 0 0],.bool false])
       (by simp[results,Tryz.results108,go_sem,I,U,V,X,Z,ae,ah,ai]) rfl ⟨_,_,by rw[T.o];rfl,by rw[T.o];exact ja _,by simp,gF⟩
end Go.Proofs.YtleafadpfeibfaaGreat
