/- Contracts and laws towards ReadsOf, part 26 of 54. No condition. -/
import Derived.Test.YtleafadpfeibfaaGreatRx23
import Derived.Test.YtleafadpfeibfaaGreatRx25
set_option maxHeartbeats 32000000
set_option maxRecDepth 10000
set_option linter.unusedVariables false
set_option linter.unusedSimpArgs false
namespace Go.Proofs.YtleafadpfeibfaaGreat
open Go.RowKit
open _root_.List (getElem_take)
variable{d:Nat}
variable{g:af d}{t:List aT}{x:av}{fp fo:List Nat}{w:World}{p:Int}{k:Nat}{u:Value}{co:Array Value}
theorem uA(h:dQ t x.1<0):ed g t x=none:=by unfold ed;rw[if_pos h]
theorem uT(h:¬dQ t x.1<0):ed g t x=ek ((bW g.1 (zB g t (dQ t x.1))).getD dE).2 x.2:=by unfold ed;rw[if_neg h]
theorem zZ(t:List aT)(i:Int):-1≤dQ t i∧dQ t i<max (t.length:Int) 1:=by
 unfold dQ;have h1:=qU (fun n:aT=>decide (n.1=i)) t;have h:=Df (fun n:aT=>decide (n.1=i)) t;omega
set_option maxRecDepth 100000 in
theorem rJ{fg:List Nat}{cg:Array Value}(g:(af d)){ft:List Nat}{ct:Array Value}(t:fU){fx:List Nat}{cx:Array Value}(x:av)(w:World)(hg:Rd.rd fg w cg.toList g)(ht:Rd.rd ft w ct.toList t)(hx:Rd.rd fx w cx.toList x):
  Calls Tryz.prog 106 #[.agg cg,.agg ct,.agg cx] w (Found [] w (ed g t x) dR):=by
 skip;have HG:=Kz hg;obtain⟨g0,g1,ag0,kg0,oH,ag1,kg1,oL,rfl,rfl,-,o5,gT,gV,o9,gX,ik⟩:=yt hg;clear hg;have HT:=Kz ht;obtain⟨t0,aj,ak,qb,rfl,rfl,-,q8,iw,kr⟩:=K8 ht;clear ht;obtain⟨q,V,rfl,rfl,-,q9,sO⟩:=K7 hx;clear hx;have au:=zZ t0 q
 by_cases T:dQ t0 q<0
 ·have ax:ed (g0,g1) t0 (q,V)=none:=uA T
  have aZ:=Kz ax;obtain⟨ix,D⟩:=nm (dQ t0 q);have ae:=Kz D;rw[←D] at T au;clear ax D;go_in;go_wp2_with fail;refine(ji t0 q _ (Rd.gr HT.o gd)).mono ?_;rintro e w' ⟨rfl,z1,rfl⟩;rw[←ae.o];go_wp2_with fail
  exact bodyPost_ret (v:=.tuple #[.agg #[.string ⟨#[]⟩,.int .i64 0,.int .i64 0,.bool false],.bool false])
   (by simp[results,Tryz.results106,go_sem]) rfl ⟨_,_,by rw[aZ.o];rfl,by rw[aZ.o];exact oD _,by simp,gd⟩
 ·have U:=uT (g:=(g0,g1)) (t:=t0) (x:=(q,V)) T
  obtain⟨ix,D⟩:=nm (dQ t0 q);obtain⟨Y,hY⟩:=nm ((bW g0 (zB (g0,g1) t0 (dQ t0 q))).getD dE);have ae:=Kz D;simp only at U;rw[←hY] at U;rw[←D] at T au hY;have HY:=Kz U;have bL:=Kz hY;clear U D hY;go_in;go_wp2_with fail;refine(ji t0 q _ (Rd.gr HT.o gd)).mono ?_;rintro e w' ⟨rfl,z1,rfl⟩;rw[←ae.o];go_wp2_with fail;generalize X:((((w.alloc (.cells #[.slice ag0 g0.length kg0,.slice ag1 g1.length kg1] 39)).alloc (.cells #[.slice aj t0.length ak] 43)).alloc (.cells #[.int .i64 q,.string V] 45)).alloc (.cells #[.string ⟨#[]⟩,.int .i64 0,.int .i64 0,.bool false] 144)).ext z1=B;have gB:Gr w B:=gb X;obtain⟨uf,uo⟩:=kb2 X (w.heap.size) (.slice ag0 g0.length kg0) (.slice ag1 g1.length kg1);have uq:=kb X (w.heap.size+1) 0 (.slice aj t0.length ak);obtain⟨bR,bX⟩:=kb2 X (w.heap.size+1+1) (.int .i64 q) (.string V);obtain⟨cB,cK⟩:=kb2 X (w.heap.size+2) (.int .i64 q) (.string V);have sB:B.heap.size=w.heap.size+4+z1.objs.size:=szB X;have EB:=Kz X;clear X
  go_cut [9] (fun s8 wr=>mK w B Y s8 wr)
  case first=>
   go_region_held3 (fun w'=>Gr B w') (exact ga)
    (first|(go_at_call 87;refine(jM (g0,g1) t0 ix _ (Rd.gr HG.o (gB.trans ga)) (Rd.gr HT.o (gB.trans ga))).mono ?_;rintro e w' ⟨rfl,x2,rfl⟩)|(go_at_call 86;refine(dY (g0,g1) (zB (g0,g1) t0 ix) _ (Rd.gr HG.o (gB.trans ga))).mono ?_;rintro e w' ⟨es,fq,rfl,hr,bg,x3,rfl⟩;obtain⟨r0,r1,cO,dB,bq,I,rfl,dS,ah,K,ku,lq⟩:=Lg (x:=(bW g0 (zB (g0,g1) t0 ix)).getD dE) hr;have ai:=Kz I;have dV:=Lt I hr;clear hr I;obtain⟨bb,J⟩:∃b:Bool,b=(bW g0 (zB (g0,g1) t0 ix)).isSome:=⟨_,rfl⟩;rw[←J];have bB:=Kz J;clear J;have fe:=Kz bg;clear bg))
   all_goals
    go_wp2_with fail;go_meet;have hY:Y=(r0,r1):=bL.o.trans ai.o.symm;subst hY;have Z:∀c∈bq,c<w.heap.size∨_≤c:=fun c hc=>(fe.o c (by rw[dS.o];simpa using hc)).imp (Rd.lt HG.o c) id
    refine⟨_,.slice cO r1.length dB,bq,rfl,gd,?_,?_,?_,ah,by first|omega|(simp;done)|(simp;omega),fun c hc=>(Z c hc).imp id (fun h=>by simp at h;omega)⟩
    ·exact kd
    ·exact kd
    ·first
      |(refine K.gr ?_;(repeat(first|exact Gr.refl _|apply Gr.ext|apply Gr.alloc|apply Gr.drew));done)
      |((with_reducible refine K.mono (dO ?_));exact fun c hc e=>by subst e;have:=Z _ hc;simp at this;omega)
      |((with_reducible refine K.mono (dM ?_));exact fun c hc e=>by subst e;have:=Z _ hc;simp at this;omega)
      |((with_reducible refine K.mono (iR ?_));exact fun c hc e=>by subst e;have:=Z _ hc;simp at this;omega)
  case rest=>
   obtain⟨b8,v8,fr,rfl,O,d0,d1,sl,fu,-,-⟩:=hcut
   rename World=>W6
   obtain⟨ay,ky,rfl,uz,u6,ve⟩:=sl.open;have z0:=blk d0;have gD:=Kz (iQ Y.1 Y.2 fu sl);have bH:=Kz O;have e3:=O.keep (bR _ (Gr.refl _));have e4:=O.keep (bX _ (Gr.refl _));have e5:=O.keep (cB _ (Gr.refl _));have e6:=O.keep (cK _ (Gr.refl _));have ze:=blk e3;clear sl O;go_wp2_with fail;refine(jA Y V _ (Rd.gr gD.o gd)).mono ?_;rintro e w' ⟨es,fq,rfl,hr,-,x3,rfl⟩;obtain⟨r0,r1,r2,r3,I,rfl,-,ah,K,gF⟩:=Ld (x:=(ek Y.2 V).getD dR) hr;have ai:=Kz I;have dV:=Lt I hr;clear hr I;obtain⟨bb,J⟩:∃b:Bool,b=(ek Y.2 V).isSome:=⟨_,rfl⟩;rw[←J];have bB:=Kz J;clear J;obtain⟨y,rfl⟩:=bH.o;obtain rfl:=EB.o;go_wp2_with fail
   exact bodyPost_ret (v:=.tuple #[.agg #[.string r0,.int .i64 r1,.int .i64 r2,.bool r3],.bool bb])
    (by simp[results,Tryz.results106,go_sem]) rfl ⟨_,[],by rw[HY.o,←bB.o],by rw[HY.o,←ai.o];exact jk r0 r1 r2 r3 ah K gF,by simp,gd⟩
set_option maxRecDepth 100000 in
theorem su{fg:List Nat}{cg:Array Value}(g:(af d)){ft:List Nat}{ct:Array Value}(t:fU){fx:List Nat}{cx:Array Value}(x:av)(w:World)(hg:Rd.rd fg w cg.toList g)(ht:Rd.rd ft w ct.toList t)(hx:Rd.rd fx w cx.toList x)(hl:aP g≤1048576):
  Calls Tryz.prog 127 #[.agg cg,.agg ct,.agg cx] w (Found [] w (ed g t x) dR):=by
 have aj:=Kz hl;have HG:=Kz hg;obtain⟨g0,g1,ag0,kg0,oL,ag1,kg1,o5,rfl,rfl,-,o9,gV,gX,qb,ik,iw⟩:=yt hg;clear hg;have HT:=Kz ht;obtain⟨t0,ak,au,q8,rfl,rfl,-,q9,kr,ku⟩:=K8 ht;clear ht;obtain⟨q,V,rfl,rfl,-,sO,uf⟩:=K7 hx;clear hx;have ax:=zZ t0 q
 by_cases T:dQ t0 q<0
 ·have aZ:ed (g0,g1) t0 (q,V)=none:=uA T
  have bg:=Kz aZ;obtain⟨ix,D⟩:=nm (dQ t0 q);have Z:=Kz D;rw[←D] at T ax;clear aZ D;go_in;go_wp2_with fail;refine(iI t0 q _ (Rd.gr HT.o gd)).mono ?_;rintro e w' ⟨rfl,z1,rfl⟩;rw[←Z.o];go_wp2_with fail
  exact bodyPost_ret (v:=.tuple #[.agg #[.string ⟨#[]⟩,.int .i64 0,.int .i64 0,.bool false],.bool false])
   (by simp[results,Tryz.results127,go_sem]) rfl ⟨_,_,by rw[bg.o];rfl,by rw[bg.o];exact oD _,by simp,gd⟩
 ·have U:=uT (g:=(g0,g1)) (t:=t0) (x:=(q,V)) T
  obtain⟨ix,D⟩:=nm (dQ t0 q);obtain⟨Y,hY⟩:=nm ((bW g0 (zB (g0,g1) t0 (dQ t0 q))).getD dE);have Z:=Kz D;simp only at U;rw[←hY] at U;rw[←D] at T ax hY;have HY:=Kz U;have bR:=Kz hY;clear U D hY;go_in;go_wp2_with fail;refine(iI t0 q _ (Rd.gr HT.o gd)).mono ?_;rintro e w' ⟨rfl,z1,rfl⟩;rw[←Z.o];go_wp2_with fail;generalize X:((((w.alloc (.cells #[.slice ag0 g0.length kg0,.slice ag1 g1.length kg1] 39)).alloc (.cells #[.slice ak t0.length au] 43)).alloc (.cells #[.int .i64 q,.string V] 45)).alloc (.cells #[.string ⟨#[]⟩,.int .i64 0,.int .i64 0,.bool false] 144)).ext z1=B;have gB:Gr w B:=gb X;obtain⟨uo,uq⟩:=kb2 X (w.heap.size) (.slice ag0 g0.length kg0) (.slice ag1 g1.length kg1);have uz:=kb X (w.heap.size+1) 0 (.slice ak t0.length au);obtain⟨bX,cB⟩:=kb2 X (w.heap.size+1+1) (.int .i64 q) (.string V);obtain⟨cK,cO⟩:=kb2 X (w.heap.size+2) (.int .i64 q) (.string V);have sB:B.heap.size=w.heap.size+4+z1.objs.size:=szB X;have EB:=Kz X;clear X
  go_cut [8] (fun s8 wr=>mK w B Y s8 wr)
  case first=>
   go_region_held3 (fun w'=>Gr B w') (exact ga)
    (first|(go_at_call 68;refine(iC (g0,g1) t0 ix _ (Rd.gr HG.o (gB.trans ga)) (Rd.gr HT.o (gB.trans ga)) aj.o).mono ?_;rintro e w' ⟨rfl,x2,rfl⟩)|(go_at_call 85;refine(dX (g0,g1) (zB (g0,g1) t0 ix) _ (Rd.gr HG.o (gB.trans ga)) aj.o).mono ?_;rintro e w' ⟨es,fq,rfl,hr,bq,x3,rfl⟩;obtain⟨r0,r1,dB,dS,bB,I,rfl,dV,ah,K,lq,oH⟩:=Lg (x:=(bW g0 (zB (g0,g1) t0 ix)).getD dE) hr;have ai:=Kz I;have fe:=Lt I hr;clear hr I;obtain⟨bb,J⟩:∃b:Bool,b=(bW g0 (zB (g0,g1) t0 ix)).isSome:=⟨_,rfl⟩;rw[←J];have bH:=Kz J;clear J;have fu:=Kz bq;clear bq)|(go_at_call 163;refine(iI t0 q _ (Rd.gr HT.o (gB.trans ga))).mono ?_;rintro e w' ⟨rfl,x4,rfl⟩;rw[←Z.o]))
   all_goals
    go_wp2_with fail;go_meet;have hY:Y=(r0,r1):=bR.o.trans ai.o.symm;subst hY;have ae:∀c∈bB,c<w.heap.size∨_≤c:=fun c hc=>(fu.o c (by rw[dV.o];simpa using hc)).imp (Rd.lt HG.o c) id
    refine⟨_,.slice dB r1.length dS,bB,rfl,gd,?_,?_,?_,ah,by first|omega|(simp;done)|(simp;omega),fun c hc=>(ae c hc).imp id (fun h=>by simp at h;omega)⟩
    ·exact kd
    ·exact kd
    ·first
      |(refine K.gr ?_;(repeat(first|exact Gr.refl _|apply Gr.ext|apply Gr.alloc|apply Gr.drew));done)
      |((with_reducible refine K.mono (dO ?_));exact fun c hc e=>by subst e;have:=ae _ hc;simp at this;omega)
      |((with_reducible refine K.mono (dM ?_));exact fun c hc e=>by subst e;have:=ae _ hc;simp at this;omega)
      |((with_reducible refine K.mono (iR ?_));exact fun c hc e=>by subst e;have:=ae _ hc;simp at this;omega)
  case rest=>
   obtain⟨b8,v8,fr,rfl,O,d0,d1,sl,gD,-,-⟩:=hcut
   rename World=>W6
   obtain⟨ay,ky,rfl,u6,ve,vB⟩:=sl.open;have z0:=blk d0;have gF:=Kz (iQ Y.1 Y.2 gD sl);have bL:=Kz O;have e3:=O.keep (bX _ (Gr.refl _));have e4:=O.keep (cB _ (Gr.refl _));have e5:=O.keep (cK _ (Gr.refl _));have e6:=O.keep (cO _ (Gr.refl _));have ze:=blk e3;clear sl O;go_wp2_with fail;refine(jC Y V _ (Rd.gr gF.o gd)).mono ?_;rintro e w' ⟨es,fq,rfl,hr,-,x3,rfl⟩;obtain⟨r0,r1,r2,r3,I,rfl,-,ah,K,gT⟩:=Ld (x:=(ek Y.2 V).getD dR) hr;have ai:=Kz I;have fe:=Lt I hr;clear hr I;obtain⟨bb,J⟩:∃b:Bool,b=(ek Y.2 V).isSome:=⟨_,rfl⟩;rw[←J];have bH:=Kz J;clear J;obtain⟨y,rfl⟩:=bL.o;obtain rfl:=EB.o;go_wp2_with fail
   exact bodyPost_ret (v:=.tuple #[.agg #[.string r0,.int .i64 r1,.int .i64 r2,.bool r3],.bool bb])
    (by simp[results,Tryz.results127,go_sem]) rfl ⟨_,[],by rw[HY.o,←bH.o],by rw[HY.o,←ai.o];exact jk r0 r1 r2 r3 ah K gT,by simp,gd⟩
abbrev ig(d:Nat):=Int×(aA d)
theorem jE{cs:Array Value}(q0:Int)(q:Int)(B:Int)(D:Int)(I:Int)(J:ByteArray)(K:ByteArray)(O:List (GE d))(h:Rd.rd (α:=(ig d)) fp w cs.toList (q0,(q,B,D,I,J,K,O))):
  ∃T U,cs=#[.int .i64 q0,.int .i64 q,.int .i64 B,.int .i64 D,.int .i64 I,.string J,.string K,T]∧fp=([]++([]++([]++([]++([]++([]++([]++U)))))))∧(Lit.int .i64 q0).wf=true∧(Lit.int .i64 q).wf=true∧(Lit.int .i64 B).wf=true∧(Lit.int .i64 D).wf=true∧(Lit.int .i64 I).wf=true∧J.size≤maxLen∧K.size≤maxLen∧SlR U w T O:=by
 generalize X:cs.toList=l at h;obtain⟨_,Y,_,bH,rfl,rfl,⟨rfl,rfl,aZ⟩,bg⟩:=h;obtain⟨V,bB,Z,ae,ah,ai,aj,ak,au,ax,ay⟩:=aF (cs:=Y.toArray) q B D I J K O (by rw[List.toList_toArray];exact bg);have bq:Y=[.int .i64 q,.int .i64 B,.int .i64 D,.int .i64 I,.string J,.string K,V]:=by have:=congrArg Array.toList Z;simpa using this
 rw[bq] at X;exact⟨_,_,Array.toList_inj.1 (by simpa using X),(by rw[ae]),aZ,ah,ai,aj,ak,au,ax,ay⟩
theorem Lp{c:Array Value}{x:(ig d)}(h:Rd.rd fp w c.toList x):
 ∃q0 D I J K O T q U B V,(q0,(D,I,J,K,O,T,q))=x∧c=#[.int .i64 q0,.int .i64 D,.int .i64 I,.int .i64 J,.int .i64 K,.string O,.string T,.slice U q.length B]∧True∧(Lit.int .i64 q0).wf=true∧(Lit.int .i64 D).wf=true∧(Lit.int .i64 I).wf=true∧(Lit.int .i64 J).wf=true∧(Lit.int .i64 K).wf=true∧O.size≤maxLen∧T.size≤maxLen∧SlR V w (.slice U q.length B) q∧q.length≤B∧q.length≤140737488351232:=by
 obtain⟨q0,⟨D,I,J,K,O,T,q⟩⟩:=x;obtain⟨ay,V,rfl,hf,ax,Y,Z,ae,ah,ai,aj,X⟩:=jE q0 D I J K O T q h;obtain⟨U,B,rfl,ak,au,-⟩:=X.open;exact⟨_,_,_,_,_,_,_,_,_,_,_,rfl,rfl,⟨⟩,ax,Y,Z,ae,ah,ai,aj,X,ak,au⟩
theorem iZ(q0:Int)(h:Int)(q:Int)(B:Int)(D:Int)(I:ByteArray)(J:ByteArray)(T:List (GE d)){K:Value}{O:List Nat}(ai:(Lit.int .i64 q0).wf=true)(U:(Lit.int .i64 h).wf=true)(V:(Lit.int .i64 q).wf=true)(X:(Lit.int .i64 B).wf=true)(Y:(Lit.int .i64 D).wf=true)(Z:I.size≤maxLen)(ae:J.size≤maxLen)(ah:SlR O w K T):
  Rd.rd (α:=(ig d)) (([]++([]++([]++([]++([]++([]++([]++O)))))))) w [.int .i64 q0,.int .i64 h,.int .i64 q,.int .i64 B,.int .i64 D,.string I,.string J,K] (q0,(h,q,B,D,I,J,T)):=⟨_,_,_,_,rfl,rfl,⟨rfl,rfl,ai⟩,⟨_,_,_,_,rfl,rfl,⟨rfl,rfl,U⟩,⟨_,_,_,_,rfl,rfl,⟨rfl,rfl,V⟩,⟨_,_,_,_,rfl,rfl,⟨rfl,rfl,X⟩,⟨_,_,_,_,rfl,rfl,⟨rfl,rfl,Y⟩,⟨_,_,_,_,rfl,rfl,⟨rfl,rfl,Z⟩,⟨_,_,_,_,rfl,rfl,⟨rfl,rfl,ae⟩,⟨_,rfl,ah⟩⟩⟩⟩⟩⟩⟩⟩
def KL(g:af d)(t:List aT)(o p:Int)(n:ByteArray):Option (ig d):=
 match nth t o with
 |none=>none
 |some m=>(il ((dJ g.2 m.2.2.2.2.1).getD fH).2.2.2.2.1 (p,n)).map fun e=>(o,e)
def zV(g:af d)(t:List aT)(x:av):Option (ig d):=
 match ed g t x with
 |none=>none
 |some a=>if a.2.2.1=3 then none else if a.2.2.1=1 then(match nth t (dQ t x.1) with|none=>none|some n=>KL g t n.2.1 n.2.2.1 x.2) else KL g t (dQ t x.1) 0 x.2
def qW:ig d:=(0,ng)
theorem ja(w:World):Rd.rd (α:=ig d) ([]++([]++([]++([]++([]++([]++([]++[]))))))) w [.int .i64 0,.int .i64 0,.int .i64 0,.int .i64 0,.int .i64 0,.string ByteArray.empty,.string ByteArray.empty,.slice none 0 0] qW:=
 iZ _ _ _ _ _ _ _ _ (by decide) (by decide) (by decide) (by decide) (by decide) (by decide) (by decide) (SlR.nil w)
theorem jw{α:Type}{o:Option α}{z y:α}(h:o.isSome=true)(q:o.getD z=y):o=some y:=by
 cases o with
 |none=>simp at h
 |some a=>simp at q;rw[q]
theorem iK{α:Type}{o:Option α}(h:o.isSome=false):o=none:=by
 cases o with
 |none=>rfl
 |some a=>simp at h
theorem wG(h:ed g t x=none):zV g t x=none:=by unfold zV;rw[h]
theorem wV{a:aQ}(h:ed g t x=some a)(hm:a.2.2.1=3):zV g t x=none:=by unfold zV;rw[h];simp only;rw[if_pos hm]
theorem zw{a:aQ}(h:ed g t x=some a)(hm:a.2.2.1=1){n:Nat}(hn:dQ t x.1=n)(q:n<t.length):zV g t x=KL g t t[n].2.1 t[n].2.2.1 x.2:=by
 unfold zV;rw[h];simp only;rw[if_neg (by rw[hm];decide),if_pos hm,hn,gG q]
theorem zQ{a:aQ}(h:ed g t x=some a)(q:¬a.2.2.1=3)(hm:¬a.2.2.1=1):zV g t x=KL g t (dQ t x.1) 0 x.2:=by
 unfold zV;rw[h];simp only;rw[if_neg q,if_neg hm]
theorem Fe{a:aQ}(h:ed g t x=some a):∃n:Nat,dQ t x.1=n∧n<t.length:=by
 have q:dQ t x.1<t.length∨dQ t x.1= -1:=Df _ t;unfold ed at h
 split at h
 ·cases h
 ·refine⟨(dQ t x.1).toNat,by omega,by omega⟩
theorem mQ{o:Int}{n:ByteArray}(h:o<0∨(t.length:Int) - 1<o):KL g t o p n=none:=by unfold KL;rw[jY h]
theorem oF{m:Nat}{n:ByteArray}(h:m<t.length){y:aW d}(q:y=(dJ g.2 t[m].2.2.2.2.1).getD fH):KL g t (m:Int) p n=(il y.2.2.2.2.1 (p,n)).map fun e=>((m:Int),e):=by unfold KL;rw[gG h,q]
theorem wh(h:aP g≤1048576)(n:ByteArray):bF ((dJ g.2 n).getD fH)≤1048576:=by
 cases q:dJ g.2 n with
 |none=>
  have B:bF (fH:aW d)=0:=rfl
  show bF fH≤_
  omega
 |some r=>
  have hm:r∈g.2:=List.mem_of_find?_eq_some q;obtain⟨i,hi,rfl⟩:=List.mem_iff_getElem.1 hm;have h1:dH g.1+gz g.2≤1048576:=h;have D:bF g.2[i]≤gz g.2:=dI bF g.2 hi
  show bF g.2[i]≤_
  omega
theorem iT{A:World}{o o':Obj}{x:Ext}(h:∀c∈fp,c≠A.heap.size):fB fp (((A.alloc o).drew).ext x) (((A.alloc o').drew).ext x):=fun c hc=>by
 have:=qZ (o:=o) (o':=o') x (h c hc);simpa[World.ext,World.drew] using this
def EP{α:Type}[Rd α](W:World)(y:α)(s:Value)(wr:World):Prop:=
 ∃b cs fr,s=.pointer (some ⟨b,0,none⟩)∧Gr W wr∧(∀j v,cs[j]?=some v→wr.cell? ⟨b,j,none⟩=some v)∧Rd.rd fr wr cs y∧W.heap.size≤b
def Jq(W:World)(T:TypeId)(i p:Int)(n:ByteArray)(h q:Value)(wr:World):Prop:=
 ∃(o:Int) (b:Nat),h=.int .i64 o∧Ky (o=i)∧q=.pointer (some ⟨b,0,none⟩)∧W.heap.size≤b∧Gr W wr∧az wr b T [.int .i64 p,.string n]
theorem Tryz.nX:(Tryz.prog.info? 181).map (fun i=>(i.zero,i.size,i.bytes))=some (some (.agg #[.int .i64 0,.string ByteArray.empty]),2,24):=by kernel_rfl
def jr(m p:Int)(xs:List aQ):List ag:=(xs.filter fun a=>decide (a.2.2.1=m)).map fun a=>(p,a.1)
theorem oI(m p:Int)(xs:List aQ):(jr m p xs).length≤xs.length:=by
 unfold jr;rw[List.length_map];exact List.length_filter_le _ _
theorem pg{m:Int}{xs:List aQ}{j:Nat}(h:j<xs.length):jr m p (xs.take (j+1))=jr m p (xs.take j)++(if xs[j].2.2.1=m then[(p,xs[j].1)] else[]):=by
 unfold jr;rw[List.take_succ_eq_append_getElem h,List.filter_append,List.map_append]
 congr 1
 by_cases hm:xs[j].2.2.1=m<;>simp[hm]
theorem tX(h:aP g≤1048576)(s:ByteArray):((bW g.1 s).getD dE).2.length≤1048576:=by
 cases q:bW g.1 s with
 |none=>show([]:List aQ).length≤_;simp
 |some y=>
  have hm:y∈g.1:=List.mem_of_find?_eq_some q;obtain⟨j,B,rfl⟩:=List.mem_iff_getElem.1 hm;have h1:=dI bM g.1 B;have D:wtL bM g.1+gz g.2≤1048576:=h;have I:=bT bI (g.1[j]).2;have J:bM g.1[j]=(g.1[j]).1.size+wtL bI (g.1[j]).2:=rfl
  show(g.1[j]).2.length≤_
  omega
theorem zN{r:aW d}(h:aP g≤1048576):∀p,((List.range p).flatMap (kU g r)).length≤1048576*p:=by
 intro p
 induction p with
 |zero=>simp
 |succ p q=>
  rw[List.range_succ,List.flatMap_append,List.length_append,List.flatMap_singleton];have h1:(kU g r p).length≤1048576:=Nat.le_trans (oI (if p=0 then 2 else 1) (p:Int) (Je g r (p:Int))) (tX h (j6 r (p:Int)));omega
def OfX(B:World)(gb:Nat)(v1:Value)(h:List Nat)(s1:List aQ)(os:List ag)(v:Value)(wr:World):Prop:=
 ∃fps:List (List Nat),fps.flatten=[]∧Gr B wr∧bE (α:=ag) B 181 wr v fps os∧wr.cell? ⟨gb,1,none⟩=some v1∧SlR h wr v1 s1∧∀b∈v.ownBlock.toList,b≠gb∧b∉h
def zh{α β:Type}(f:α→β)(xs:List α):Prop:=∀i (h:i<xs.length),∀j (q:j<xs.length),j<i→f xs[j]≠f xs[i]
theorem xx{α β:Type}{f:α→β}{xs:List α}(h:k<xs.length)(D:zh f (xs.take k))(hn:f xs[k]∉(xs.take k).map f):zh f (xs.take (k+1)):=by
 intro i hi j J q e
 have I:i<k+1:=by simp at hi;omega
 rw[getElem_take,getElem_take] at e
 by_cases B:i=k
 ·subst B
  exact hn (List.mem_map.2 ⟨xs[j],List.mem_iff_getElem.2 ⟨j,by simp;omega,by rw[getElem_take]⟩,e⟩)
 ·exact D i (by simp;omega) j (by simp;omega) q (by rw[getElem_take,getElem_take];exact e)
theorem Aa{α β:Type}{f:α→β}{xs:List α}(h:k<xs.length)(hn:f xs[k]∈(xs.take k).map f):¬zh f xs:=by
 intro D
 obtain⟨y,I,e⟩:=List.mem_map.1 hn;obtain⟨j,J,q⟩:=List.mem_iff_getElem.1 I;have B:j<k:=by simp at J;omega
 rw[getElem_take] at q;exact D k h j (by omega) B (by rw[q,e])
theorem Dc{α:Type}{xs:List α}{o:α}(h:k<xs.length)(hn:o∉xs.take k)(hk:xs[k]≠o):o∉xs.take (k+1):=by
 rw[List.take_succ_eq_append_getElem h,List.mem_append,List.mem_singleton];exact fun q=>q.elim hn (fun e=>hk e.symm)
theorem qc(xs:List ag)(o:ag)(w:World)(X:SlR fp w u xs)(ho:Rd.rd fo w co.toList o):
  Qz 235 #[u,.agg co] w (.bool (pB (o∈xs))):=by
 have HX:=Kz X;obtain⟨ax,kx,rfl,ay,aZ,ae⟩:=X.open;obtain⟨q,I,rfl,rfl,-,bg,bq⟩:=KT ho;clear ho;clear X;delta Qz;go_in;go_wp2_with fail;generalize Y:(w.alloc (.cells #[.int .i64 q,.string I] 181))=B;have gB:Gr w B:=gb Y;obtain⟨ah,ai⟩:=kb2 Y (w.heap.size) (.int .i64 q) (.string I);clear Y
 go_loopw [5] (fun Z wr=>∃k:Nat,k≤xs.length∧Ky ((q,I)∉xs.take k)∧Ky (Gr B wr)∧Z=.int .i64 k) (fun Z _=>xs.length - (intOf Z).toNat)
 case atStart=>exact⟨0,by omega,Kz (by simp),Kz (Gr.refl _),rfl⟩
 case round=>
  obtain⟨k,hk,HN,O,rfl⟩:=hrel
  rename World=>W1
  have J:=Kz (gB.trans O.o);have y0:=ah _ O.o;have y1:=ai _ O.o
  by_cases D:k<xs.length
  ·skip
   obtain⟨b,off,rfl,hb⟩:=ae k D;obtain⟨K,T,V,-,aj,ak,z0,z1,zb⟩:=Le HX.o D J.o;have k0:(0:Int)≤(k:Int):=by omega
   have k1:(k:Int)<(xs.length:Int):=by omega
   have iw:=zI1 k (by omega);have au:=Kz (Dc D HN.o);clear aj ak
   have U:(K=q∧T=I)∨(K≠q)∨(K=q∧T.toList≠I.toList):=
    (Classical.em (K=q)).elim (fun t0=>(Classical.em (T=I)).elim (fun t1=>.inl ⟨t0,t1⟩) (fun t1=>.inr (.inr ⟨t0,fun e=>t1 (str_inj e)⟩))) (fun t0=>.inr (.inl t0))
   rcases U with⟨rfl,rfl⟩|e|⟨rfl,e⟩
   ·have HF:=Kz (bQ (show(K,T)∈xs from by rw[V.o];exact List.getElem_mem D))
    go_wp2_with fail
    go_region
    all_goals
     go_wp2_with fail;go_ret;exact⟨aa HF.o.symm,J.o.trans gd⟩
   all_goals
    have HF:=Kz (au.o (by
     rw[←V.o];intro h
     simp only[Prod.mk.injEq,true_and] at h
     first|exact e h.1|(rw[h] at e;exact e rfl)|exact e (congrArg ByteArray.toList h)))
    go_wp2_with fail
    go_region
    all_goals
     go_wp2_with fail;exact⟨⟨k+1,by omega,HF,Kz (tg O),by go_num⟩,by simp[intOf];omega⟩
  ·obtain rfl:k=xs.length:=by omega
   rw[List.take_length] at HN;go_wp2_with fail;go_ret;exact⟨aa (bV HN.o).symm,J.o⟩
theorem Bv(xs:List ag)(o:ag)(w:World)(X:SlR fp w u xs)(ho:Rd.rd fo w co.toList o):
  Calls Tryz.prog 246 #[u,.agg co] w fun e w'=>∃i:Int,e=.returned (.int .i64 i)∧decide (0≤i)=pB (o∈xs)∧Gr w w':=by
 have HX:=Kz X;obtain⟨ax,kx,rfl,ay,aZ,ae⟩:=X.open;obtain⟨q,I,rfl,rfl,-,bg,bq⟩:=KT ho;clear ho;clear X;go_in;go_wp2_with fail;generalize Y:(w.alloc (.cells #[.int .i64 q,.string I] 181))=B;have gB:Gr w B:=gb Y;obtain⟨ah,ai⟩:=kb2 Y (w.heap.size) (.int .i64 q) (.string I);clear Y
 go_loopw [8] (fun Z wr=>∃k:Nat,k≤xs.length∧Ky ((q,I)∉xs.take k)∧Ky (Gr B wr)∧Z=.int .i64 k) (fun Z _=>xs.length - (intOf Z).toNat)
 case atStart=>exact⟨0,by omega,Kz (by simp),Kz (Gr.refl _),rfl⟩
 case round=>
  obtain⟨k,hk,HN,O,rfl⟩:=hrel
  rename World=>W1
  have J:=Kz (gB.trans O.o);have y0:=ah _ O.o;have y1:=ai _ O.o
  by_cases D:k<xs.length
  ·skip
   obtain⟨b,off,rfl,hb⟩:=ae k D;obtain⟨K,T,V,-,aj,ak,z0,z1,zb⟩:=Le HX.o D J.o;have k0:(0:Int)≤(k:Int):=by omega
   have k1:(k:Int)<(xs.length:Int):=by omega
   have iw:=zI1 k (by omega);have au:=Kz (Dc D HN.o);clear aj ak
   have U:(K=q∧T=I)∨(K≠q)∨(K=q∧T.toList≠I.toList):=
    (Classical.em (K=q)).elim (fun t0=>(Classical.em (T=I)).elim (fun t1=>.inl ⟨t0,t1⟩) (fun t1=>.inr (.inr ⟨t0,fun e=>t1 (str_inj e)⟩))) (fun t0=>.inr (.inl t0))
   rcases U with⟨rfl,rfl⟩|e|⟨rfl,e⟩
   ·have HF:=Kz (bQ (show(K,T)∈xs from by rw[V.o];exact List.getElem_mem D))
    go_wp2_with fail
    go_region
    all_goals
     go_wp2_with fail;go_ret;exact⟨k,rfl,by rw[HF.o];exact decide_eq_true (by omega),J.o.trans gd⟩
   all_goals
    have e':=Ne.symm e
    have HF:=Kz (au.o (by
     rw[←V.o];intro h
     simp only[Prod.mk.injEq,true_and] at h
     first|exact e h.1|(rw[h] at e;exact e rfl)|exact e (congrArg ByteArray.toList h)))
    go_wp2_with fail
    go_region
    all_goals
     go_wp2_with fail;exact⟨⟨k+1,by omega,HF,Kz (tg O),by go_num⟩,by simp[intOf];omega⟩
  ·obtain rfl:k=xs.length:=by omega
   rw[List.take_length] at HN;go_wp2_with fail;go_ret;exact⟨-1,rfl,by rw[bV HN.o];rfl,J.o⟩
theorem vQ(xs:List ag)(o:ag)(w:World)(h:SlR fp w u xs)(q:Rd.rd fo w co.toList o):
  Qz 221 #[u,.agg co] w (.bool (pB (o∈xs))):=by
 have B:=Kz h;obtain⟨T,U,rfl,-,-,-⟩:=h.open;have D:=Kz q;obtain⟨I,J,rfl,rfl,-,K,O⟩:=KT q;clear q;clear h;delta Qz;go_in;go_wp2_with fail;refine(Bv xs (I,J) _ (B.o.gr gd) (Rd.gr D.o gd)).mono ?_;rintro e w' ⟨i,rfl,hi,V,rfl⟩;go_wp2_with fail;go_ret
 first|exact⟨aa hi,gd⟩|exact⟨rfl,gd⟩
end Go.Proofs.YtleafadpfeibfaaGreat
