/- Contracts and laws towards ReadsOf, part 23 of 54. No condition. -/
import Derived.Test.YtdhighcpmcdmmaaGreatFx22
import Derived.Test.YtdhighcpmcdmmaaGreatFx19
import Derived.Test.YtdhighcpmcdmmaaGreatFx20
set_option maxHeartbeats 32000000
set_option maxRecDepth 10000
set_option linter.unusedVariables false
set_option linter.unusedSimpArgs false
namespace Go.Proofs.YtdhighcpmcdmmaaGreat
open Go.RowKit
open _root_.List (getElem_take)
variable{d:Nat}
variable{g:af d}{t:List aT}{x:av}{fp fo:List Nat}{w:World}{p:Int}{k:Nat}{u:Value}{co:Array Value}
theorem uA(h:dQ t x.1<0):ed g t x=none:=by unfold ed;rw[if_pos h]
theorem uT(h:¬dQ t x.1<0):ed g t x=ek ((bW g.1 (zB g t (dQ t x.1))).getD dE).2 x.2:=by unfold ed;rw[if_neg h]
theorem zZ(t:List aT)(i:Int):-1≤dQ t i∧dQ t i<max (t.length:Int) 1:=by
 unfold dQ;have h:=qU (fun n:aT=>decide (n.1=i)) t;have q:=Df (fun n:aT=>decide (n.1=i)) t;omega
set_option maxRecDepth 100000 in
theorem rJ{fg:List Nat}{cg:Array Value}(g:(af d)){ft:List Nat}{ct:Array Value}(t:fU){fx:List Nat}{cx:Array Value}(x:av)(w:World)(hg:Rd.rd fg w cg.toList g)(ht:Rd.rd ft w ct.toList t)(hx:Rd.rd fx w cx.toList x):
  Calls Tryz.prog 50 #[.agg cg,.agg ct,.agg cx] w (Found [] w (ed g t x) dR):=by
 skip;have HG:=Kz hg;obtain⟨q,I,au,ax,gH,aL,aN,gM,rfl,rfl,-,gT,fe,fu,ik,fw,fA⟩:=yt hg;clear hg;have HT:=Kz ht;obtain⟨t0,aS,aV,iw,rfl,rfl,-,jN,fK,gm⟩:=K8 ht;clear ht;obtain⟨s,U,rfl,rfl,-,jX,j4⟩:=K7 hx;clear hx;have aZ:=zZ t0 s
 by_cases O:dQ t0 s<0
 ·have bg:ed (q,I) t0 (s,U)=none:=uA O
  have bq:=Kz bg;obtain⟨ix,D⟩:=nm (dQ t0 s);have ah:=Kz D;rw[←D] at O aZ;clear bg D;go_in;go_wp2_with fail;refine(ji t0 s _ (Rd.gr HT.o gd)).mono ?_;rintro e w' ⟨rfl,z1,rfl⟩;rw[←ah.o];go_wp2_with fail
  exact bodyPost_ret (v:=.tuple #[.agg #[.string ⟨#[]⟩,.int .i64 0,.int .i64 0,.bool false],.bool false])
   (by simp[results,Tryz.results50,go_sem]) rfl ⟨_,_,by rw[bq.o];rfl,by rw[bq.o];exact oD _,by simp,gd⟩
 ·have T:=uT (g:=(q,I)) (t:=t0) (x:=(s,U)) O
  obtain⟨ix,D⟩:=nm (dQ t0 s);obtain⟨Y,hY⟩:=nm ((bW q (zB (q,I) t0 (dQ t0 s))).getD dE);have ah:=Kz D;simp only at T;rw[←hY] at T;rw[←D] at O aZ hY;have HY:=Kz T;have bL:=Kz hY;clear T D hY;go_in;go_wp2_with fail;refine(ji t0 s _ (Rd.gr HT.o gd)).mono ?_;rintro e w' ⟨rfl,z1,rfl⟩;rw[←ah.o];go_wp2_with fail;generalize X:((((w.alloc (.cells #[.slice au q.length ax,.slice aL I.length aN] 36)).alloc (.cells #[.slice aS t0.length aV] 40)).alloc (.cells #[.int .i64 s,.string U] 63)).alloc (.cells #[.string ⟨#[]⟩,.int .i64 0,.int .i64 0,.bool false] 81)).ext z1=B;have gB:Gr w B:=gb X;obtain⟨j5,ku⟩:=kb2 X (w.heap.size) (.slice au q.length ax) (.slice aL I.length aN);have kz:=kb X (w.heap.size+1) 0 (.slice aS t0.length aV);obtain⟨bN,bV⟩:=kb2 X (w.heap.size+1+1) (.int .i64 s) (.string U);obtain⟨cK,cO⟩:=kb2 X (w.heap.size+2) (.int .i64 s) (.string U);have sB:B.heap.size=w.heap.size+4+z1.objs.size:=szB X;have EB:=Kz X;clear X
  go_cut [9] (fun s8 wr=>mK w B Y s8 wr)
  case first=>
   go_region_held3 (fun w'=>Gr B w') (exact ga)
    (first|(go_at_call 93;refine(jM (q,I) t0 ix _ (Rd.gr HG.o (gB.trans ga)) (Rd.gr HT.o (gB.trans ga))).mono ?_;rintro e w' ⟨rfl,x2,rfl⟩)|(go_at_call 94;refine(dY (q,I) (zB (q,I) t0 ix) _ (Rd.gr HG.o (gB.trans ga))).mono ?_;rintro e w' ⟨es,fq,rfl,Z,bB,x3,rfl⟩;obtain⟨r0,r1,dz,dA,bD,E,rfl,dC,ai,J,gD,gF⟩:=Lg (x:=(bW q (zB (q,I) t0 ix)).getD dE) Z;have aj:=Kz E;have dG:=Lt E Z;clear Z E;obtain⟨bb,H⟩:∃b:Bool,b=(bW q (zB (q,I) t0 ix)).isSome:=⟨_,rfl⟩;rw[←H];have bH:=Kz H;clear H;have dL:=Kz bB;clear bB))
   all_goals
    go_wp2_with fail;go_meet;have hY:Y=(r0,r1):=bL.o.trans aj.o.symm;subst hY;have ae:∀c∈bD,c<w.heap.size∨_≤c:=fun c hc=>(dL.o c (by rw[dC.o];simpa using hc)).imp (Rd.lt HG.o c) id
    refine⟨_,.slice dz r1.length dA,bD,rfl,gd,?_,?_,?_,ai,by first|omega|(simp;done)|(simp;omega),fun c hc=>(ae c hc).imp id (fun h=>by simp at h;omega)⟩
    ·exact kd
    ·exact kd
    ·first
      |(refine J.gr ?_;(repeat(first|exact Gr.refl _|apply Gr.ext|apply Gr.alloc|apply Gr.drew));done)
      |((with_reducible refine J.mono (dO ?_));exact fun c hc e=>by subst e;have:=ae _ hc;simp at this;omega)
      |((with_reducible refine J.mono (dM ?_));exact fun c hc e=>by subst e;have:=ae _ hc;simp at this;omega)
      |((with_reducible refine J.mono (iR ?_));exact fun c hc e=>by subst e;have:=ae _ hc;simp at this;omega)
  case rest=>
   obtain⟨b8,v8,fr,rfl,K,d0,d1,sl,dU,-,-⟩:=hcut
   rename World=>W6
   obtain⟨ay,ky,rfl,kE,kL,kQ⟩:=sl.open;have z0:=blk d0;have dW:=Kz (iQ Y.1 Y.2 dU sl);have bK:=Kz K;have e3:=K.keep (bN _ (Gr.refl _));have e4:=K.keep (bV _ (Gr.refl _));have e5:=K.keep (cK _ (Gr.refl _));have e6:=K.keep (cO _ (Gr.refl _));have ze:=blk e3;clear sl K;go_wp2_with fail;refine(jA Y U _ (Rd.gr dW.o gd)).mono ?_;rintro e w' ⟨es,fq,rfl,Z,-,x3,rfl⟩;obtain⟨r0,r1,r2,r3,E,rfl,-,ai,J,eH⟩:=Ld (x:=(ek Y.2 U).getD dR) Z;have aj:=Kz E;have dG:=Lt E Z;clear Z E;obtain⟨bb,H⟩:∃b:Bool,b=(ek Y.2 U).isSome:=⟨_,rfl⟩;rw[←H];have bH:=Kz H;clear H;obtain⟨y,rfl⟩:=bK.o;obtain rfl:=EB.o;go_wp2_with fail
   exact bodyPost_ret (v:=.tuple #[.agg #[.string r0,.int .i64 r1,.int .i64 r2,.bool r3],.bool bb])
    (by simp[results,Tryz.results50,go_sem]) rfl ⟨_,[],by rw[HY.o,←bH.o],by rw[HY.o,←aj.o];exact jk r0 r1 r2 r3 ai J eH,by simp,gd⟩
set_option maxRecDepth 100000 in
theorem su{fg:List Nat}{cg:Array Value}(g:(af d)){ft:List Nat}{ct:Array Value}(t:fU){fx:List Nat}{cx:Array Value}(x:av)(w:World)(hg:Rd.rd fg w cg.toList g)(ht:Rd.rd ft w ct.toList t)(hx:Rd.rd fx w cx.toList x)(hl:aP g≤1048576):
  Calls Tryz.prog 91 #[.agg cg,.agg ct,.agg cx] w (Found [] w (ed g t x) dR):=by
 have au:=Kz hl;have HG:=Kz hg;obtain⟨q,I,ax,aL,gM,aN,aS,gT,rfl,rfl,-,ik,fu,fw,iw,fA,fK⟩:=yt hg;clear hg;have HT:=Kz ht;obtain⟨t0,aV,aZ,jN,rfl,rfl,-,jX,gm,gD⟩:=K8 ht;clear ht;obtain⟨s,U,rfl,rfl,-,j4,j5⟩:=K7 hx;clear hx;have bg:=zZ t0 s
 by_cases O:dQ t0 s<0
 ·have bq:ed (q,I) t0 (s,U)=none:=uA O
  have bB:=Kz bq;obtain⟨ix,D⟩:=nm (dQ t0 s);have ae:=Kz D;rw[←D] at O bg;clear bq D;go_in;go_wp2_with fail;refine(iI t0 s _ (Rd.gr HT.o gd)).mono ?_;rintro e w' ⟨rfl,z1,rfl⟩;rw[←ae.o];go_wp2_with fail
  exact bodyPost_ret (v:=.tuple #[.agg #[.string ⟨#[]⟩,.int .i64 0,.int .i64 0,.bool false],.bool false])
   (by simp[results,Tryz.results91,go_sem]) rfl ⟨_,_,by rw[bB.o];rfl,by rw[bB.o];exact oD _,by simp,gd⟩
 ·have T:=uT (g:=(q,I)) (t:=t0) (x:=(s,U)) O
  obtain⟨ix,D⟩:=nm (dQ t0 s);obtain⟨Y,hY⟩:=nm ((bW q (zB (q,I) t0 (dQ t0 s))).getD dE);have ae:=Kz D;simp only at T;rw[←hY] at T;rw[←D] at O bg hY;have HY:=Kz T;have bN:=Kz hY;clear T D hY;go_in;go_wp2_with fail;refine(iI t0 s _ (Rd.gr HT.o gd)).mono ?_;rintro e w' ⟨rfl,z1,rfl⟩;rw[←ae.o];go_wp2_with fail;generalize X:((((w.alloc (.cells #[.slice ax q.length aL,.slice aN I.length aS] 36)).alloc (.cells #[.slice aV t0.length aZ] 40)).alloc (.cells #[.int .i64 s,.string U] 63)).alloc (.cells #[.string ⟨#[]⟩,.int .i64 0,.int .i64 0,.bool false] 81)).ext z1=B;have gB:Gr w B:=gb X;obtain⟨ku,kz⟩:=kb2 X (w.heap.size) (.slice ax q.length aL) (.slice aN I.length aS);have kE:=kb X (w.heap.size+1) 0 (.slice aV t0.length aZ);obtain⟨bV,cK⟩:=kb2 X (w.heap.size+1+1) (.int .i64 s) (.string U);obtain⟨cO,dz⟩:=kb2 X (w.heap.size+2) (.int .i64 s) (.string U);have sB:B.heap.size=w.heap.size+4+z1.objs.size:=szB X;have EB:=Kz X;clear X
  go_cut [8] (fun s8 wr=>mK w B Y s8 wr)
  case first=>
   go_region_held3 (fun w'=>Gr B w') (exact ga)
    (first|(go_at_call 38;refine(iC (q,I) t0 ix _ (Rd.gr HG.o (gB.trans ga)) (Rd.gr HT.o (gB.trans ga)) au.o).mono ?_;rintro e w' ⟨rfl,x2,rfl⟩)|(go_at_call 59;refine(dX (q,I) (zB (q,I) t0 ix) _ (Rd.gr HG.o (gB.trans ga)) au.o).mono ?_;rintro e w' ⟨es,fq,rfl,Z,bD,x3,rfl⟩;obtain⟨r0,r1,dA,dC,bH,E,rfl,dG,ai,J,gF,gH⟩:=Lg (x:=(bW q (zB (q,I) t0 ix)).getD dE) Z;have aj:=Kz E;have dL:=Lt E Z;clear Z E;obtain⟨bb,H⟩:∃b:Bool,b=(bW q (zB (q,I) t0 ix)).isSome:=⟨_,rfl⟩;rw[←H];have bK:=Kz H;clear H;have dU:=Kz bD;clear bD)|(go_at_call 126;refine(iI t0 s _ (Rd.gr HT.o (gB.trans ga))).mono ?_;rintro e w' ⟨rfl,x4,rfl⟩;rw[←ae.o]))
   all_goals
    go_wp2_with fail;go_meet;have hY:Y=(r0,r1):=bN.o.trans aj.o.symm;subst hY;have ah:∀c∈bH,c<w.heap.size∨_≤c:=fun c hc=>(dU.o c (by rw[dG.o];simpa using hc)).imp (Rd.lt HG.o c) id
    refine⟨_,.slice dA r1.length dC,bH,rfl,gd,?_,?_,?_,ai,by first|omega|(simp;done)|(simp;omega),fun c hc=>(ah c hc).imp id (fun h=>by simp at h;omega)⟩
    ·exact kd
    ·exact kd
    ·first
      |(refine J.gr ?_;(repeat(first|exact Gr.refl _|apply Gr.ext|apply Gr.alloc|apply Gr.drew));done)
      |((with_reducible refine J.mono (dO ?_));exact fun c hc e=>by subst e;have:=ah _ hc;simp at this;omega)
      |((with_reducible refine J.mono (dM ?_));exact fun c hc e=>by subst e;have:=ah _ hc;simp at this;omega)
      |((with_reducible refine J.mono (iR ?_));exact fun c hc e=>by subst e;have:=ah _ hc;simp at this;omega)
  case rest=>
   obtain⟨b8,v8,fr,rfl,K,d0,d1,sl,dW,-,-⟩:=hcut
   rename World=>W6
   obtain⟨ay,ky,rfl,kL,kQ,kS⟩:=sl.open;have z0:=blk d0;have eH:=Kz (iQ Y.1 Y.2 dW sl);have bL:=Kz K;have e3:=K.keep (bV _ (Gr.refl _));have e4:=K.keep (cK _ (Gr.refl _));have e5:=K.keep (cO _ (Gr.refl _));have e6:=K.keep (dz _ (Gr.refl _));have ze:=blk e3;clear sl K;go_wp2_with fail;refine(jC Y U _ (Rd.gr eH.o gd)).mono ?_;rintro e w' ⟨es,fq,rfl,Z,-,x3,rfl⟩;obtain⟨r0,r1,r2,r3,E,rfl,-,ai,J,fe⟩:=Ld (x:=(ek Y.2 U).getD dR) Z;have aj:=Kz E;have dL:=Lt E Z;clear Z E;obtain⟨bb,H⟩:∃b:Bool,b=(ek Y.2 U).isSome:=⟨_,rfl⟩;rw[←H];have bK:=Kz H;clear H;obtain⟨y,rfl⟩:=bL.o;obtain rfl:=EB.o;go_wp2_with fail
   exact bodyPost_ret (v:=.tuple #[.agg #[.string r0,.int .i64 r1,.int .i64 r2,.bool r3],.bool bb])
    (by simp[results,Tryz.results91,go_sem]) rfl ⟨_,[],by rw[HY.o,←bK.o],by rw[HY.o,←aj.o];exact jk r0 r1 r2 r3 ai J fe,by simp,gd⟩
abbrev ig(d:Nat):=Int×(aA d)
theorem jE{cs:Array Value}(q0:Int)(q:Int)(s:Int)(B:Int)(D:Int)(E:ByteArray)(H:ByteArray)(I:List (GE d))(h:Rd.rd (α:=(ig d)) fp w cs.toList (q0,(q,s,B,D,E,H,I))):
  ∃J K,cs=#[.int .i64 q0,.int .i64 q,.int .i64 s,.int .i64 B,.int .i64 D,.string E,.string H,J]∧fp=([]++([]++([]++([]++([]++([]++([]++K)))))))∧(Lit.int .i64 q0).wf=true∧(Lit.int .i64 q).wf=true∧(Lit.int .i64 s).wf=true∧(Lit.int .i64 B).wf=true∧(Lit.int .i64 D).wf=true∧E.size≤maxLen∧H.size≤maxLen∧SlR K w J I:=by
 generalize T:cs.toList=l at h;obtain⟨_,U,_,aV,rfl,rfl,⟨rfl,rfl,ay⟩,aL⟩:=h;obtain⟨O,aS,X,Y,Z,ae,ah,ai,aj,au,ax⟩:=aF (cs:=U.toArray) q s B D E H I (by rw[List.toList_toArray];exact aL);have aN:U=[.int .i64 q,.int .i64 s,.int .i64 B,.int .i64 D,.string E,.string H,O]:=by have:=congrArg Array.toList X;simpa using this
 rw[aN] at T;exact⟨_,_,Array.toList_inj.1 (by simpa using T),(by rw[Y]),ay,Z,ae,ah,ai,aj,au,ax⟩
theorem Lp{c:Array Value}{x:(ig d)}(h:Rd.rd fp w c.toList x):
 ∃q0 B D E H I J q K s O,(q0,(B,D,E,H,I,J,q))=x∧c=#[.int .i64 q0,.int .i64 B,.int .i64 D,.int .i64 E,.int .i64 H,.string I,.string J,.slice K q.length s]∧True∧(Lit.int .i64 q0).wf=true∧(Lit.int .i64 B).wf=true∧(Lit.int .i64 D).wf=true∧(Lit.int .i64 E).wf=true∧(Lit.int .i64 H).wf=true∧I.size≤maxLen∧J.size≤maxLen∧SlR O w (.slice K q.length s) q∧q.length≤s∧q.length≤140737488351232:=by
 obtain⟨q0,⟨B,D,E,H,I,J,q⟩⟩:=x;obtain⟨ax,O,rfl,hf,au,U,X,Y,Z,ae,ah,T⟩:=jE q0 B D E H I J q h;obtain⟨K,s,rfl,ai,aj,-⟩:=T.open;exact⟨_,_,_,_,_,_,_,_,_,_,_,rfl,rfl,⟨⟩,au,U,X,Y,Z,ae,ah,T,ai,aj⟩
theorem iZ(q0:Int)(h:Int)(q:Int)(s:Int)(B:Int)(D:ByteArray)(E:ByteArray)(J:List (GE d)){H:Value}{I:List Nat}(ae:(Lit.int .i64 q0).wf=true)(K:(Lit.int .i64 h).wf=true)(O:(Lit.int .i64 q).wf=true)(T:(Lit.int .i64 s).wf=true)(U:(Lit.int .i64 B).wf=true)(X:D.size≤maxLen)(Y:E.size≤maxLen)(Z:SlR I w H J):
  Rd.rd (α:=(ig d)) (([]++([]++([]++([]++([]++([]++([]++I)))))))) w [.int .i64 q0,.int .i64 h,.int .i64 q,.int .i64 s,.int .i64 B,.string D,.string E,H] (q0,(h,q,s,B,D,E,J)):=⟨_,_,_,_,rfl,rfl,⟨rfl,rfl,ae⟩,⟨_,_,_,_,rfl,rfl,⟨rfl,rfl,K⟩,⟨_,_,_,_,rfl,rfl,⟨rfl,rfl,O⟩,⟨_,_,_,_,rfl,rfl,⟨rfl,rfl,T⟩,⟨_,_,_,_,rfl,rfl,⟨rfl,rfl,U⟩,⟨_,_,_,_,rfl,rfl,⟨rfl,rfl,X⟩,⟨_,_,_,_,rfl,rfl,⟨rfl,rfl,Y⟩,⟨_,rfl,Z⟩⟩⟩⟩⟩⟩⟩⟩
def KL(g:af d)(t:List aT)(o p:Int)(n:ByteArray):Option (ig d):=
 match nth t o with
 |none=>none
 |some m=>(il ((dJ g.2 m.2.2.2.2.1).getD fH).2.2.2.2.1 (p,n)).map fun e=>(o,e)
def dS(g:af d)(t:List aT)(x:av):Option (ig d):=
 match ed g t x with
 |none=>none
 |some a=>if a.2.2.1=3 then none else if a.2.2.1=1 then(match nth t (dQ t x.1) with|none=>none|some n=>KL g t n.2.1 n.2.2.1 x.2) else KL g t (dQ t x.1) 0 x.2
def qW:ig d:=(0,ng)
theorem ja(w:World):Rd.rd (α:=ig d) ([]++([]++([]++([]++([]++([]++([]++[]))))))) w [.int .i64 0,.int .i64 0,.int .i64 0,.int .i64 0,.int .i64 0,.string ByteArray.empty,.string ByteArray.empty,.slice none 0 0] qW:=
 iZ _ _ _ _ _ _ _ _ (by decide) (by decide) (by decide) (by decide) (by decide) (by decide) (by decide) (SlR.nil w)
theorem jw{α:Type}{o:Option α}{z y:α}(h:o.isSome=true)(q:o.getD z=y):o=some y:=by
 cases o with
 |none=>simp at h
 |some a=>simp at q;rw[q]
theorem iK{α:Type}{o:Option α}(h:o.isSome=false):o=none:=by
 cases o with
 |none=>rfl
 |some a=>simp at h
theorem wG(h:ed g t x=none):dS g t x=none:=by unfold dS;rw[h]
theorem wV{a:aQ}(h:ed g t x=some a)(hm:a.2.2.1=3):dS g t x=none:=by unfold dS;rw[h];simp only;rw[if_pos hm]
theorem zw{a:aQ}(h:ed g t x=some a)(hm:a.2.2.1=1){n:Nat}(q:dQ t x.1=n)(s:n<t.length):dS g t x=KL g t t[n].2.1 t[n].2.2.1 x.2:=by
 unfold dS;rw[h];simp only;rw[if_neg (by rw[hm];decide),if_pos hm,q,gG s]
theorem zQ{a:aQ}(h:ed g t x=some a)(q:¬a.2.2.1=3)(hm:¬a.2.2.1=1):dS g t x=KL g t (dQ t x.1) 0 x.2:=by
 unfold dS;rw[h];simp only;rw[if_neg q,if_neg hm]
theorem Fe{a:aQ}(h:ed g t x=some a):∃n:Nat,dQ t x.1=n∧n<t.length:=by
 have q:dQ t x.1<t.length∨dQ t x.1= -1:=Df _ t;unfold ed at h
 split at h
 ·cases h
 ·refine⟨(dQ t x.1).toNat,by omega,by omega⟩
theorem mQ{o:Int}{n:ByteArray}(h:o<0∨(t.length:Int) - 1<o):KL g t o p n=none:=by unfold KL;rw[jY h]
theorem oF{m:Nat}{n:ByteArray}(h:m<t.length){y:aW d}(q:y=(dJ g.2 t[m].2.2.2.2.1).getD fH):KL g t (m:Int) p n=(il y.2.2.2.2.1 (p,n)).map fun e=>((m:Int),e):=by unfold KL;rw[gG h,q]
theorem wh(h:aP g≤1048576)(n:ByteArray):bF ((dJ g.2 n).getD fH)≤1048576:=by
 cases q:dJ g.2 n with
 |none=>
  have B:bF (fH:aW d)=0:=rfl
  show bF fH≤_
  omega
 |some r=>
  have hm:r∈g.2:=List.mem_of_find?_eq_some q;obtain⟨i,s,rfl⟩:=List.mem_iff_getElem.1 hm;have D:dH g.1+gz g.2≤1048576:=h;have E:bF g.2[i]≤gz g.2:=dI bF g.2 s
  show bF g.2[i]≤_
  omega
theorem iT{A:World}{o o':Obj}{x:Ext}(h:∀c∈fp,c≠A.heap.size):fB fp (((A.alloc o).drew).ext x) (((A.alloc o').drew).ext x):=fun c hc=>by
 have:=qZ (o:=o) (o':=o') x (h c hc);simpa[World.ext,World.drew] using this
def EP{α:Type}[Rd α](W:World)(y:α)(s:Value)(wr:World):Prop:=
 ∃b cs fr,s=.pointer (some ⟨b,0,none⟩)∧Gr W wr∧(∀j v,cs[j]?=some v→wr.cell? ⟨b,j,none⟩=some v)∧Rd.rd fr wr cs y∧W.heap.size≤b
def Jq(W:World)(T:TypeId)(i p:Int)(n:ByteArray)(h q:Value)(wr:World):Prop:=
 ∃(o:Int) (b:Nat),h=.int .i64 o∧Ky (o=i)∧q=.pointer (some ⟨b,0,none⟩)∧W.heap.size≤b∧Gr W wr∧az wr b T [.int .i64 p,.string n]
theorem Tryz.nX:(Tryz.prog.info? 132).map (fun i=>(i.zero,i.size,i.bytes))=some (some (.agg #[.int .i64 0,.string ByteArray.empty]),2,24):=by kernel_rfl
def jr(m p:Int)(xs:List aQ):List ag:=(xs.filter fun a=>decide (a.2.2.1=m)).map fun a=>(p,a.1)
theorem oI(m p:Int)(xs:List aQ):(jr m p xs).length≤xs.length:=by
 unfold jr;rw[List.length_map];exact List.length_filter_le _ _
theorem pg{m:Int}{xs:List aQ}{j:Nat}(h:j<xs.length):jr m p (xs.take (j+1))=jr m p (xs.take j)++(if xs[j].2.2.1=m then[(p,xs[j].1)] else[]):=by
 unfold jr;rw[List.take_succ_eq_append_getElem h,List.filter_append,List.map_append]
 congr 1
 by_cases hm:xs[j].2.2.1=m<;>simp[hm]
theorem tX(h:aP g≤1048576)(s:ByteArray):((bW g.1 s).getD dE).2.length≤1048576:=by
 cases q:bW g.1 s with
 |none=>show([]:List aQ).length≤_;simp
 |some y=>
  have hm:y∈g.1:=List.mem_of_find?_eq_some q;obtain⟨j,B,rfl⟩:=List.mem_iff_getElem.1 hm;have D:=dI bM g.1 B;have E:wtL bM g.1+gz g.2≤1048576:=h;have H:=bT bI (g.1[j]).2;have I:bM g.1[j]=(g.1[j]).1.size+wtL bI (g.1[j]).2:=rfl
  show(g.1[j]).2.length≤_
  omega
theorem zN{r:aW d}(h:aP g≤1048576):∀p,((List.range p).flatMap (kU g r)).length≤1048576*p:=by
 intro p
 induction p with
 |zero=>simp
 |succ p q=>
  rw[List.range_succ,List.flatMap_append,List.length_append,List.flatMap_singleton];have s:(kU g r p).length≤1048576:=Nat.le_trans (oI (if p=0 then 2 else 1) (p:Int) (Je g r (p:Int))) (tX h (j6 r (p:Int)));omega
def OfX(B:World)(gb:Nat)(v1:Value)(h:List Nat)(s1:List aQ)(os:List ag)(v:Value)(wr:World):Prop:=
 ∃fps:List (List Nat),fps.flatten=[]∧Gr B wr∧bE (α:=ag) B 132 wr v fps os∧wr.cell? ⟨gb,1,none⟩=some v1∧SlR h wr v1 s1∧∀b∈v.ownBlock.toList,b≠gb∧b∉h
def zh{α β:Type}(f:α→β)(xs:List α):Prop:=∀i (h:i<xs.length),∀j (q:j<xs.length),j<i→f xs[j]≠f xs[i]
theorem xx{α β:Type}{f:α→β}{xs:List α}(h:k<xs.length)(B:zh f (xs.take k))(D:f xs[k]∉(xs.take k).map f):zh f (xs.take (k+1)):=by
 intro i E j I q e
 have H:i<k+1:=by simp at E;omega
 rw[getElem_take,getElem_take] at e
 by_cases s:i=k
 ·subst s
  exact D (List.mem_map.2 ⟨xs[j],List.mem_iff_getElem.2 ⟨j,by simp;omega,by rw[getElem_take]⟩,e⟩)
 ·exact B i (by simp;omega) j (by simp;omega) q (by rw[getElem_take,getElem_take];exact e)
theorem Aa{α β:Type}{f:α→β}{xs:List α}(h:k<xs.length)(B:f xs[k]∈(xs.take k).map f):¬zh f xs:=by
 intro D
 obtain⟨y,E,e⟩:=List.mem_map.1 B;obtain⟨j,H,q⟩:=List.mem_iff_getElem.1 E;have s:j<k:=by simp at H;omega
 rw[getElem_take] at q;exact D k h j (by omega) s (by rw[q,e])
theorem Dc{α:Type}{xs:List α}{o:α}(h:k<xs.length)(q:o∉xs.take k)(s:xs[k]≠o):o∉xs.take (k+1):=by
 rw[List.take_succ_eq_append_getElem h,List.mem_append,List.mem_singleton];exact fun B=>B.elim q (fun e=>s e.symm)
theorem qc(xs:List ag)(o:ag)(w:World)(T:SlR fp w u xs)(ho:Rd.rd fo w co.toList o):
  Qz 122 #[u,.agg co] w (.bool (pB (o∈xs))):=by
 have HX:=Kz T;obtain⟨ax,kx,rfl,aL,aN,ae⟩:=T.open;obtain⟨q,D,rfl,rfl,-,aS,aV⟩:=KT ho;clear ho;clear T;delta Qz;go_in;go_wp2_with fail;generalize U:(w.alloc (.cells #[.int .i64 q,.string D] 132))=B;have gB:Gr w B:=gb U;obtain⟨ah,ai⟩:=kb2 U (w.heap.size) (.int .i64 q) (.string D);clear U
 go_loopw [5] (fun X wr=>∃k:Nat,k≤xs.length∧Ky ((q,D)∉xs.take k)∧Ky (Gr B wr)∧X=.int .i64 k) (fun X _=>xs.length - (intOf X).toNat)
 case atStart=>exact⟨0,by omega,Kz (by simp),Kz (Gr.refl _),rfl⟩
 case round=>
  obtain⟨k,hk,Y,I,rfl⟩:=hrel
  rename World=>W1
  have E:=Kz (gB.trans I.o);have y0:=ah _ I.o;have y1:=ai _ I.o
  by_cases s:k<xs.length
  ·skip
   obtain⟨b,off,rfl,hb⟩:=ae k s;obtain⟨H,J,O,-,aj,au,z0,z1,zb⟩:=Le HX.o s E.o;have k0:(0:Int)≤(k:Int):=by omega
   have k1:(k:Int)<(xs.length:Int):=by omega
   have iw:=zI1 k (by omega);have ay:=Kz (Dc s Y.o);clear aj au
   have K:(H=q∧J=D)∨(H≠q)∨(H=q∧J.toList≠D.toList):=
    (Classical.em (H=q)).elim (fun t0=>(Classical.em (J=D)).elim (fun t1=>.inl ⟨t0,t1⟩) (fun t1=>.inr (.inr ⟨t0,fun e=>t1 (str_inj e)⟩))) (fun t0=>.inr (.inl t0))
   rcases K with⟨rfl,rfl⟩|e|⟨rfl,e⟩
   ·have Z:=Kz (bQ (show(H,J)∈xs from by rw[O.o];exact List.getElem_mem s))
    go_wp2_with fail
    go_region
    all_goals
     go_wp2_with fail;go_ret;exact⟨aa Z.o.symm,E.o.trans gd⟩
   all_goals
    have Z:=Kz (ay.o (by
     rw[←O.o];intro h
     simp only[Prod.mk.injEq,true_and] at h
     first|exact e h.1|(rw[h] at e;exact e rfl)|exact e (congrArg ByteArray.toList h)))
    go_wp2_with fail
    go_region
    all_goals
     go_wp2_with fail;exact⟨⟨k+1,by omega,Z,Kz (tg I),by go_num⟩,by simp[intOf];omega⟩
  ·obtain rfl:k=xs.length:=by omega
   rw[List.take_length] at Y;go_wp2_with fail;go_ret;exact⟨aa (bz Y.o).symm,E.o⟩
theorem Bv(xs:List ag)(o:ag)(w:World)(T:SlR fp w u xs)(ho:Rd.rd fo w co.toList o):
  Calls Tryz.prog 147 #[u,.agg co] w fun e w'=>∃i:Int,e=.returned (.int .i64 i)∧decide (0≤i)=pB (o∈xs)∧Gr w w':=by
 have HX:=Kz T;obtain⟨ax,kx,rfl,aL,aN,ae⟩:=T.open;obtain⟨q,D,rfl,rfl,-,aS,aV⟩:=KT ho;clear ho;clear T;go_in;go_wp2_with fail;generalize U:(w.alloc (.cells #[.int .i64 q,.string D] 132))=B;have gB:Gr w B:=gb U;obtain⟨ah,ai⟩:=kb2 U (w.heap.size) (.int .i64 q) (.string D);clear U
 go_loopw [8] (fun X wr=>∃k:Nat,k≤xs.length∧Ky ((q,D)∉xs.take k)∧Ky (Gr B wr)∧X=.int .i64 k) (fun X _=>xs.length - (intOf X).toNat)
 case atStart=>exact⟨0,by omega,Kz (by simp),Kz (Gr.refl _),rfl⟩
 case round=>
  obtain⟨k,hk,Y,I,rfl⟩:=hrel
  rename World=>W1
  have E:=Kz (gB.trans I.o);have y0:=ah _ I.o;have y1:=ai _ I.o
  by_cases s:k<xs.length
  ·skip
   obtain⟨b,off,rfl,hb⟩:=ae k s;obtain⟨H,J,O,-,aj,au,z0,z1,zb⟩:=Le HX.o s E.o;have k0:(0:Int)≤(k:Int):=by omega
   have k1:(k:Int)<(xs.length:Int):=by omega
   have iw:=zI1 k (by omega);have ay:=Kz (Dc s Y.o);clear aj au
   have K:(H=q∧J=D)∨(H≠q)∨(H=q∧J.toList≠D.toList):=
    (Classical.em (H=q)).elim (fun t0=>(Classical.em (J=D)).elim (fun t1=>.inl ⟨t0,t1⟩) (fun t1=>.inr (.inr ⟨t0,fun e=>t1 (str_inj e)⟩))) (fun t0=>.inr (.inl t0))
   rcases K with⟨rfl,rfl⟩|e|⟨rfl,e⟩
   ·have Z:=Kz (bQ (show(H,J)∈xs from by rw[O.o];exact List.getElem_mem s))
    go_wp2_with fail
    go_region
    all_goals
     go_wp2_with fail;go_ret;exact⟨k,rfl,by rw[Z.o];exact decide_eq_true (by omega),E.o.trans gd⟩
   all_goals
    have e':=Ne.symm e
    have Z:=Kz (ay.o (by
     rw[←O.o];intro h
     simp only[Prod.mk.injEq,true_and] at h
     first|exact e h.1|(rw[h] at e;exact e rfl)|exact e (congrArg ByteArray.toList h)))
    go_wp2_with fail
    go_region
    all_goals
     go_wp2_with fail;exact⟨⟨k+1,by omega,Z,Kz (tg I),by go_num⟩,by simp[intOf];omega⟩
  ·obtain rfl:k=xs.length:=by omega
   rw[List.take_length] at Y;go_wp2_with fail;go_ret;exact⟨-1,rfl,by rw[bz Y.o];rfl,E.o⟩
theorem vQ(xs:List ag)(o:ag)(w:World)(h:SlR fp w u xs)(q:Rd.rd fo w co.toList o):
  Qz 74 #[u,.agg co] w (.bool (pB (o∈xs))):=by
 have s:=Kz h;obtain⟨K,O,rfl,-,-,-⟩:=h.open;have B:=Kz q;obtain⟨D,E,rfl,rfl,-,I,J⟩:=KT q;clear q;clear h;delta Qz;go_in;go_wp2_with fail;refine(Bv xs (D,E) _ (s.o.gr gd) (Rd.gr B.o gd)).mono ?_;rintro e w' ⟨i,rfl,H,T,rfl⟩;go_wp2_with fail;go_ret
 first|exact⟨aa H,gd⟩|exact⟨rfl,gd⟩
end Go.Proofs.YtdhighcpmcdmmaaGreat
