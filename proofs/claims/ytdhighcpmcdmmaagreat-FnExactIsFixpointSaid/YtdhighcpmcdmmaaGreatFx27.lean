/- Contracts and laws towards ReadsOf, part 30 of 54. No condition. -/
import Derived.Test.YtdhighcpmcdmmaaGreatFx25
import Derived.Test.YtdhighcpmcdmmaaGreatFx24
set_option maxHeartbeats 32000000
set_option maxRecDepth 10000
set_option linter.unusedVariables false
set_option linter.unusedSimpArgs false
namespace Go.Proofs.YtdhighcpmcdmmaaGreat
open Go.RowKit
variable{d:Nat}
variable{n:Nat}{fg fr fx:List Nat}{cg cr cx:Array Value}
def Jm(g:af d):Prop:=(∀s∈g.1,Dv s)∧kM Prod.fst g.1∧(∀r∈g.2,j3 r)∧kM Prod.fst g.2
def Ju(g:af d)(w:World)(e:Ending)(w':World):Prop:=∃i:Int,e=.returned (.int .i64 i)∧-1≤i∧i≤2097152∧(i<0↔Jm g)∧Gr w w'
theorem C8(fg:List Nat)(cg:Array Value)(g:af d)(w:World)(hg:Rd.rd fg w cg.toList g)(hl:aP g≤1048576):Calls Tryz.prog 230 #[.agg cg] w (Ju g w):=by
 obtain⟨i0,hi⟩:=info_parts Tryz.Ac;have Z:=Kz hi;clear hi;obtain⟨I,J,bB,bD,ky,bH,bK,kz,rfl,rfl,-,bL,gm,gD,bN,gF,gH⟩:=yt hg;have cO:=bL.op3;have dz:=bN.op3;clear hg;have bV:wtL bM I+wtL bF J≤1048576:=hl;have kE:I.length≤1048576:=by have:=bT bM I;omega
 have U:J.length≤1048576:=by have:=bT bF J;omega
 have HL:=Kz bV;clear hl bV;go_in;go_wp2_with fail;generalize hB:(w.alloc (.cells #[.slice bB I.length bD,.slice bH J.length bK] 36))=B;have gB:Gr w B:=gb hB;obtain⟨dA,dC⟩:=kb2 hB (w.heap.size) (.slice bB I.length bD) (.slice bH J.length bK);have sB:B.heap.size=w.heap.size+1:=szB hB;clear hB
 go_loopw [4,3] (fun s4 s3 wr=>∃(k:Nat) (fps:List (List Nat)),k≤I.length∧Ky (fps.flatten=[])∧Ky (∀s∈I.take k,Dv s)∧Ky (kM Prod.fst (I.take k))∧Gr B wr∧bE (α:=ByteArray) B 9 wr s3 fps ((I.take k).map Prod.fst)∧s4=.int .i64 k) (fun s4 _ _=>I.length - (intOf s4).toNat)
 case atStart=>exact⟨0,[],by omega,Kz rfl,Kz (by simp),Kz (by intro i h;simp at h),gd,bE.kF (α:=ByteArray) (w0:=B) 9 (Nat.le_refl _) (by omega),rfl⟩
 case round=>
  skip;obtain⟨k,fps,hk,HF,HA,HD,H,hown,rfl⟩:=hrel
  rename World=>W1
  have ae:=Kz H;have HO:=Kz hown;obtain⟨L,Y⟩:=nm ((I.take k).map Prod.fst);have ah:L.length=k:=by rw[Y];simp;omega
  have dG:L.length≤1048576:=by omega
  have cK:=Kz ah;clear ah;obtain⟨ra,rc,K⟩:=hown.form;rw[←Y] at K;subst K;have q:=Kz Y;have y:=dA _ H;have zy:=blk y;have X:=gB.trans H;have O:=Kz X;clear H hown Y
  by_cases D:k<I.length
  ·have au:=dI bM I D
   have ax:=Kz (show bM I[k]≤1048576 by have:=HL.o;omega);have ay:=Kz (fun h=>dD D HA.o h);have aL:=Kz (lK D HD.o);have aN:=Kz (oC (f:=Prod.fst) (xs:=I) D);have ai:=Kz (List.getElem_mem D);obtain⟨dL,U,-⟩:=HO.o.fresh (by rw[←q.o];unfold bn;omega) (by rw[HF.o];exact aY.nil _);rw[←q.o] at U;have HN:=Kz U;clear au U;obtain⟨b,off,rfl,dU⟩:=cO k D;obtain⟨q0,q1,kL,kQ,kS,dW,E,aS,aV,eH,gM,gT,fe,fu,fw⟩:=K9 bL D X;have k0:(0:Int)≤(k:Int):=by omega
   have k1:(k:Int)<(I.length:Int):=by omega
   have iw:=zI1 k (by omega);have HQ:=Kz aV
   have aZ:=Kz (show(I.take (k+1)).map Prod.fst=L++[q0] by
    rw[List.take_succ_eq_append_getElem D,List.map_append,q.o,←E.o];rfl)
   clear X;go_wp2_with fail;refine(CJ _ _ (q0,q1) _ (Rd.gr aS.o O.o) (by rw[E.o];exact ax.o)).mono ?_;rintro e w' ⟨rfl,x1,rfl⟩
   by_cases T:Dv (q0,q1)
   ·rw[bQ T]
    have HP:=Kz T;clear T;go_wp2_with fail;refine(mi L q0 _ (HN.o.gr gd)).mono ?_;rintro e w' ⟨rfl,x2,rfl⟩
    by_cases hm:q0∈L
    ·rw[bQ hm]
     have HM:=Kz hm;clear hm;go_wp2_with fail;go_ret;exact⟨k,rfl,by omega,by omega,⟨fun h=>by omega,fun h=>absurd h.2.1 (aN.o (by rw[←E.o,←q.o];exact HM.o))⟩,O.o.trans gd⟩
    ·rw[bz hm]
     have HM:=Kz hm;clear hm;have bg:=Kz (ae.o.trans (show Gr W1 ((W1.ext x1).ext x2) from gd));have bq:=Kz (HO.o.gr (show Gr W1 ((W1.ext x1).ext x2) from gd))
     go_wp2_with (first|(at_builtin;refine bP (α:=ByteArray) (w0:=B) (tg bg) rfl _ _ 94 rfl 9 i0 _ _ Tryz.underlying94 Z.o.1 Z.o.2.1 Z.o.2.2.1 Z.o.2.2.2 rfl _ fps _ (by rfl) (bq.o.gr gd) _ [[]] [q0] (by rfl) (eT.one (by simp) ⟨rfl,rfl,HQ.o⟩) (fun b _=>by simp) (by rw[←q.o];unfold maxLen;simp;omega) (by rw[←q.o];simp;omega) ?_;intro v3 w3 h1 h2 h3 h4;replace h1:=Kz h1;replace h4:=Kz h4;clear h2 h3))
     refine⟨⟨k+1,fps++[[]],by omega,Kz (by rw[List.flatten_append,HF.o];rfl),Kz (ay.o (by rw[←E.o];exact HP.o)),Kz (aL.o (by rw[←E.o,←q.o];exact HM.o)),h4.o,?_,by go_num⟩,by simp[intOf];omega⟩;rw[aZ.o,q.o];exact h1.o
   ·rw[bz T]
    have HP:=Kz T;clear T;go_wp2_with fail;go_ret;exact⟨k,rfl,by omega,by omega,⟨fun h=>by omega,fun h=>absurd (h.1 _ ai.o) (by rw[←E.o];exact HP.o)⟩,O.o.trans gd⟩
  ·obtain rfl:k=I.length:=by omega
   rw[List.take_length] at HA HD;have fA:=HA;have fK:=HD;have aj:=Kz ae.o;go_wp2_with fail
   go_loopw [5,3] (fun s4 s3 wr=>∃(k:Nat) (fps:List (List Nat)),k≤J.length∧Ky (fps.flatten=[])∧Ky (∀s∈J.take k,j3 s)∧Ky (kM Prod.fst (J.take k))∧Gr B wr∧bE (α:=ByteArray) B 9 wr s3 fps ((J.take k).map Prod.fst)∧s4=.int .i64 k) (fun s4 _ _=>J.length - (intOf s4).toNat)
   case atStart=>exact⟨0,[],by omega,Kz rfl,Kz (by simp),Kz (by intro i h;simp at h),aj.o.trans gd,bE.kF (α:=ByteArray) (w0:=B) 9 aj.o.size (by omega),rfl⟩
   case round=>
    clear aj y zy ae HO X O q cK;obtain⟨k,fps,hk,HF,HA,HD,H,hown,rfl⟩:=hrel
    rename World=>W2
    have ae:=Kz H;have HO:=Kz hown;obtain⟨L,Y⟩:=nm ((J.take k).map Prod.fst);have ah:L.length=k:=by rw[Y];simp;omega
    have dG:L.length≤1048576:=by omega
    have cK:=Kz ah;clear ah;obtain⟨ra,rc,K⟩:=hown.form;rw[←Y] at K;subst K;have q:=Kz Y;have y:=dC _ H;have zy:=blk y;have X:=gB.trans H;have O:=Kz X;clear H hown Y
    by_cases D:k<J.length
    ·have au:=dI bF J D
     have ax:=Kz (show bF J[k]≤1048576 by have:=HL.o;omega);have ay:=Kz (fun h=>dD D HA.o h);have aL:=Kz (lK D HD.o);have aN:=Kz (oC (f:=Prod.fst) (xs:=J) D);have ai:=Kz (List.getElem_mem D);obtain⟨dL,U,-⟩:=HO.o.fresh (by rw[←q.o];unfold bn;omega) (by rw[HF.o];exact aY.nil _);rw[←q.o] at U;have HN:=Kz U;clear au U;obtain⟨b,off,rfl,dU⟩:=dz k D;obtain⟨q0,q1,q2,q3,q4,q5,kT,kV,kX,kZ,lq,lG,lV,l5,l6,dW,E,aS,aV,eH,l7,ik,jN,l8,jX,j4,ma,j5,ku,fe,fu,mf,mh,mo,mq,fw⟩:=Lf bN D X;have k0:(0:Int)≤(k:Int):=by omega
     have k1:(k:Int)<(J.length:Int):=by omega
     have iw:=zI1 k (by omega);have HQ:=Kz aV
     have aZ:=Kz (show(J.take (k+1)).map Prod.fst=L++[q0] by
      rw[List.take_succ_eq_append_getElem D,List.map_append,q.o,←E.o];rfl)
     clear X;go_wp2_with fail;refine(Az _ _ (q0,q1,q2,q3,q4,q5) _ (Rd.gr aS.o O.o) (by rw[E.o];exact ax.o)).mono ?_;rintro e w' ⟨rfl,x1,rfl⟩
     by_cases T:j3 (q0,q1,q2,q3,q4,q5)
     ·rw[bQ T]
      have HP:=Kz T;clear T;go_wp2_with fail;refine(mi L q0 _ (HN.o.gr gd)).mono ?_;rintro e w' ⟨rfl,x2,rfl⟩
      by_cases hm:q0∈L
      ·rw[bQ hm]
       have HM:=Kz hm;clear hm;go_wp2_with fail;go_ret;exact⟨k,rfl,by omega,by omega,⟨fun h=>by omega,fun h=>absurd h.2.2.2 (aN.o (by rw[←E.o,←q.o];exact HM.o))⟩,O.o.trans gd⟩
      ·rw[bz hm]
       have HM:=Kz hm;clear hm;have bg:=Kz (ae.o.trans (show Gr W2 ((W2.ext x1).ext x2) from gd));have bq:=Kz (HO.o.gr (show Gr W2 ((W2.ext x1).ext x2) from gd))
       go_wp2_with (first|(at_builtin;refine bP (α:=ByteArray) (w0:=B) (tg bg) rfl _ _ 94 rfl 9 i0 _ _ Tryz.underlying94 Z.o.1 Z.o.2.1 Z.o.2.2.1 Z.o.2.2.2 rfl _ fps _ (by rfl) (bq.o.gr gd) _ [[]] [q0] (by rfl) (eT.one (by simp) ⟨rfl,rfl,HQ.o⟩) (fun b _=>by simp) (by rw[←q.o];unfold maxLen;simp;omega) (by rw[←q.o];simp;omega) ?_;intro v3 w3 h1 h2 h3 h4;replace h1:=Kz h1;replace h4:=Kz h4;clear h2 h3))
       refine⟨⟨k+1,fps++[[]],by omega,Kz (by rw[List.flatten_append,HF.o];rfl),Kz (ay.o (by rw[←E.o];exact HP.o)),Kz (aL.o (by rw[←E.o,←q.o];exact HM.o)),h4.o,?_,by go_num⟩,by simp[intOf];omega⟩;rw[aZ.o,q.o];exact h1.o
     ·rw[bz T]
      have HP:=Kz T;clear T;go_wp2_with fail;go_ret;exact⟨k,rfl,by omega,by omega,⟨fun h=>by omega,fun h=>absurd (h.2.2.1 _ ai.o) (by rw[←E.o];exact HP.o)⟩,O.o.trans gd⟩
    ·obtain rfl:k=J.length:=by omega
     rw[List.take_length] at HA HD;go_wp2_with fail;go_ret;exact⟨-1,rfl,by omega,by omega,⟨fun _=>⟨fA.o,fK.o,HA.o,HD.o⟩,fun _=>by omega⟩,O.o⟩
theorem CK(g:af d)(r:aW d)(x:aA n)(w:World)(H:TyC g r n)(s:Rd.rd fg w cg.toList g)(B:Rd.rd fr w cr.toList r)(D:Rd.rd fx w cx.toList x)(I:aP g≤1048576)(J:x.1=1):
  Qz 232 #[.agg cg,.agg cr,.agg cx] w (.int .i64 (dZ g r (n+1) x)):=by
 clear H I;obtain⟨K,O,aN,aS,aV,aZ,bg,bq,rfl,rfl,-,bB,T,U,bD,X,Y⟩:=yt s;clear s;obtain⟨Z,r1,r2,r3,r4,r5,bH,bK,bL,bN,bV,cK,cO,dz,dA,rfl,rfl,-,dC,dG,dL,ae,ah,dU,ai,aj,dW,au,ax⟩:=KV B;clear B;obtain⟨q0,q1,q2,q3,q4,q5,q6,eH,fe,fu,rfl,rfl,-,fw,fA,fK,gm,gB,gD,gF,ay,aL⟩:=KU D;clear D;obtain⟨E,h⟩:=nm (dZ (K,O) (Z,r1,r2,r3,r4,r5) (n+1) ((q0,q1,q2,q3,q4,q5,q6):aA n));rw[←h];obtain rfl:q0=1:=J;have q:=Kz h;clear h;have HF:=Kz (show E=q3 by rw[q.o];rfl);delta Qz;go_in;go_wp2_with fail;go_ret;exact⟨by rw[HF.o];rfl,gd⟩
theorem BQ(g:af d)(r:aW d)(x:aA n)(w:World)(J:TyC g r n)(D:Rd.rd fg w cg.toList g)(E:Rd.rd fr w cr.toList r)(H:Rd.rd fx w cx.toList x)(K:aP g≤1048576)(O:x.1=2):
  Qz 232 #[.agg cg,.agg cr,.agg cx] w (.int .i64 (dZ g r (n+1) x)):=by
 clear J K;obtain⟨T,U,aS,aV,aZ,bg,bq,bB,rfl,rfl,-,bD,X,Y,bH,Z,ae⟩:=yt D;clear D;obtain⟨r0,r1,r2,I,r4,r5,bK,bL,bN,bV,cK,cO,dz,dA,dC,rfl,rfl,-,dG,dL,dU,ah,ai,dW,aj,au,eH,ax,ay⟩:=KV E;clear E;obtain⟨q0,q1,q2,q3,q4,q5,q6,fe,fu,fw,rfl,rfl,-,fA,fK,gm,gB,gD,gF,gH,aL,aN⟩:=KU H;clear H;obtain⟨s,h⟩:=nm (dZ (T,U) (r0,r1,r2,I,r4,r5) (n+1) ((q0,q1,q2,q3,q4,q5,q6):aA n));rw[←h];obtain rfl:q0=2:=O;have q:=Kz h;clear h
 cases I with
 |true=>
  have B:=Kz (show s=1 by rw[q.o];rfl);delta Qz;go_in;go_wp2_with fail;go_ret;exact⟨by rw[B.o];rfl,gd⟩
 |false=>
  have B:=Kz (show s=0 by rw[q.o];rfl);delta Qz;go_in;go_wp2_with fail;go_ret;exact⟨by rw[B.o];rfl,gd⟩
theorem Cq(g:af d)(r:aW d)(x:aA n)(w:World)(X:TyC g r n)(q:Rd.rd fg w cg.toList g)(s:Rd.rd fr w cr.toList r)(B:Rd.rd fx w cx.toList x)(Z:aP g≤1048576)(hk:x.1=4):
  Qz 232 #[.agg cg,.agg cr,.agg cx] w (.int .i64 (dZ g r (n+1) x)):=by
 have HE:=Kz X;clear X Z;have HG:=Kz q;obtain⟨D,E,bg,bq,bB,bD,bH,bK,rfl,rfl,-,bL,ae,ah,bN,ai,aj⟩:=yt q;clear q;have HR:=Kz s;obtain⟨H,I,J,K,O,T,bV,cK,cO,dz,dA,dC,dG,dL,dU,rfl,rfl,-,dW,eH,fe,au,ax,fu,ay,aL,fw,aN,aS⟩:=KV s;clear s;obtain⟨q0,q1,q2,q3,q4,q5,q6,fA,fK,gm,rfl,rfl,-,gB,gD,gF,gH,gM,gT,ik,aV,aZ⟩:=KU B;have HX:=Kz B;clear B;obtain⟨Y,h⟩:=nm (dZ (D,E) (H,I,J,K,O,T) (n+1) ((q0,q1,q2,q3,q4,q5,q6):aA n));rw[←h];obtain rfl:q0=4:=hk;have U:=Kz h;clear h;have HF:=Kz (show Y=KO (D,E) (H,I,J,K,O,T) q1 q6 by rw[U.o];rfl);delta Qz;go_in;go_wp2_with fail;refine(CY (D,E) (H,I,J,K,O,T) (4,q1,q2,q3,q4,q5,q6) _ HE.o (Rd.gr HG.o gd) (Rd.gr HR.o gd) (Rd.gr HX.o gd)).mono ?_;rintro e w' ⟨rfl,x1,rfl⟩;go_wp2_with fail;go_ret;exact⟨by rw[HF.o];rfl,gd⟩
theorem CP(g:af d)(r:aW d)(x:aA n)(w:World)(X:TyC g r n)(q:Rd.rd fg w cg.toList g)(s:Rd.rd fr w cr.toList r)(B:Rd.rd fx w cx.toList x)(Z:aP g≤1048576)(hk:x.1=5):
  Qz 232 #[.agg cg,.agg cr,.agg cx] w (.int .i64 (dZ g r (n+1) x)):=by
 have HE:=Kz X;clear X Z;have HG:=Kz q;obtain⟨D,E,bg,bq,bB,bD,bH,bK,rfl,rfl,-,bL,ae,ah,bN,ai,aj⟩:=yt q;clear q;have HR:=Kz s;obtain⟨H,I,J,K,O,T,bV,cK,cO,dz,dA,dC,dG,dL,dU,rfl,rfl,-,dW,eH,fe,au,ax,fu,ay,aL,fw,aN,aS⟩:=KV s;clear s;obtain⟨q0,q1,q2,q3,q4,q5,q6,fA,fK,gm,rfl,rfl,-,gB,gD,gF,gH,gM,gT,ik,aV,aZ⟩:=KU B;have HX:=Kz B;clear B;obtain⟨Y,h⟩:=nm (dZ (D,E) (H,I,J,K,O,T) (n+1) ((q0,q1,q2,q3,q4,q5,q6):aA n));rw[←h];obtain rfl:q0=5:=hk;have U:=Kz h;clear h;have HF:=Kz (show Y=KN (D,E) (H,I,J,K,O,T) q6 by rw[U.o];rfl);delta Qz;go_in;go_wp2_with fail;refine(Cv (D,E) (H,I,J,K,O,T) (5,q1,q2,q3,q4,q5,q6) _ HE.o (Rd.gr HG.o gd) (Rd.gr HR.o gd) (Rd.gr HX.o gd)).mono ?_;rintro e w' ⟨rfl,x1,rfl⟩;go_wp2_with fail;go_ret;exact⟨by rw[HF.o];rfl,gd⟩
theorem Cm(g:af d)(r:aW d)(x:aA n)(w:World)(J:TyC g r n)(B:Rd.rd fg w cg.toList g)(D:Rd.rd fr w cr.toList r)(E:Rd.rd fx w cx.toList x)(K:aP g≤1048576)(O:x.1=6):
  Qz 232 #[.agg cg,.agg cr,.agg cx] w (.int .i64 (dZ g r (n+1) x)):=by
 clear J K;obtain⟨T,U,aS,aV,aZ,bg,bq,bB,rfl,rfl,-,bD,X,Y,bH,Z,ae⟩:=yt B;clear B;obtain⟨r0,r1,H,r3,r4,r5,bK,bL,bN,bV,cK,cO,dz,dA,dC,rfl,rfl,-,dG,dL,dU,ah,ai,dW,aj,au,eH,ax,ay⟩:=KV D;clear D;obtain⟨q0,q1,q2,q3,q4,q5,q6,fe,fu,fw,rfl,rfl,-,fA,fK,gm,gB,gD,gF,gH,aL,aN⟩:=KU E;clear E;obtain⟨I,h⟩:=nm (dZ (T,U) (r0,r1,H,r3,r4,r5) (n+1) ((q0,q1,q2,q3,q4,q5,q6):aA n));rw[←h];obtain rfl:q0=6:=O;have s:=Kz h;clear h;have q:I=if 0≤q2∧q2≤(H.length:Int) then 4 else 0:=by rw[s.o];rfl
 have HF:=Kz q;clear q;delta Qz;go_in
 go_wp2_with (first|(go_at_call 86;refine(fI _ _ _ _).mono ?_;rintro e w' ⟨rfl,rfl⟩))
 go_ways
 all_goals
  go_ret;refine⟨?_,gd⟩;rw[HF.o]
  first|(simp_all;done)|(simp_all;intros;omega)
theorem Dr(g:af d)(r:aW d)(x:aA n)(w:World)(H:TyC g r n)(s:Rd.rd fg w cg.toList g)(B:Rd.rd fr w cr.toList r)(D:Rd.rd fx w cx.toList x)(I:aP g≤1048576)(J:x.1=7):
  Qz 232 #[.agg cg,.agg cr,.agg cx] w (.int .i64 (dZ g r (n+1) x)):=by
 clear H I;obtain⟨K,O,aN,aS,aV,aZ,bg,bq,rfl,rfl,-,bB,T,U,bD,X,Y⟩:=yt s;clear s;obtain⟨Z,r1,r2,r3,r4,r5,bH,bK,bL,bN,bV,cK,cO,dz,dA,rfl,rfl,-,dC,dG,dL,ae,ah,dU,ai,aj,dW,au,ax⟩:=KV B;clear B;obtain⟨q0,q1,q2,q3,q4,q5,q6,eH,fe,fu,rfl,rfl,-,fw,fA,fK,gm,gB,gD,gF,ay,aL⟩:=KU D;clear D;obtain⟨E,h⟩:=nm (dZ (K,O) (Z,r1,r2,r3,r4,r5) (n+1) ((q0,q1,q2,q3,q4,q5,q6):aA n));rw[←h];obtain rfl:q0=7:=J;have q:=Kz h;clear h;have HF:=Kz (show E=4 by rw[q.o];rfl);delta Qz;go_in;go_wp2_with fail;go_ret;exact⟨by rw[HF.o];rfl,gd⟩
theorem Cz(g:af d)(r:aW d)(x:aA n)(w:World)(Y:TyC g r n)(O:Rd.rd fg w cg.toList g)(T:Rd.rd fr w cr.toList r)(U:Rd.rd fx w cx.toList x)(Z:aP g≤1048576)(h:¬(1≤x.1∧x.1≤8)):
  Qz 232 #[.agg cg,.agg cr,.agg cx] w (.int .i64 (dZ g r (n+1) x)):=by
 clear Y Z;obtain⟨g0,g1,bg,bq,bB,bD,bH,bK,rfl,rfl,-,bL,ae,ah,bN,ai,aj⟩:=yt O;clear O;obtain⟨r0,r1,r2,r3,r4,r5,bV,cK,cO,dz,dA,dC,dG,dL,dU,rfl,rfl,-,dW,eH,fe,au,ax,fu,ay,aL,fw,aN,aS⟩:=KV T;clear T;obtain⟨q0,q1,q2,q3,q4,q5,q6,fA,fK,gm,rfl,rfl,-,gB,gD,gF,gH,gM,gT,ik,aV,aZ⟩:=KU U;clear U;obtain⟨X,q⟩:=nm (dZ (g0,g1) (r0,r1,r2,r3,r4,r5) (n+1) ((q0,q1,q2,q3,q4,q5,q6):aA n));rw[←q];have iw:(q0==1)=false:=by simp;rintro rfl;exact h ⟨by simp,by simp⟩
 have s:q0≠1:=by rintro rfl;exact h ⟨by simp,by simp⟩
 have jN:(q0==2)=false:=by simp;rintro rfl;exact h ⟨by simp,by simp⟩
 have B:q0≠2:=by rintro rfl;exact h ⟨by simp,by simp⟩
 have jX:(q0==3)=false:=by simp;rintro rfl;exact h ⟨by simp,by simp⟩
 have D:q0≠3:=by rintro rfl;exact h ⟨by simp,by simp⟩
 have j4:(q0==4)=false:=by simp;rintro rfl;exact h ⟨by simp,by simp⟩
 have E:q0≠4:=by rintro rfl;exact h ⟨by simp,by simp⟩
 have j5:(q0==5)=false:=by simp;rintro rfl;exact h ⟨by simp,by simp⟩
 have H:q0≠5:=by rintro rfl;exact h ⟨by simp,by simp⟩
 have ku:(q0==6)=false:=by simp;rintro rfl;exact h ⟨by simp,by simp⟩
 have I:q0≠6:=by rintro rfl;exact h ⟨by simp,by simp⟩
 have ky:(q0==7)=false:=by simp;rintro rfl;exact h ⟨by simp,by simp⟩
 have J:q0≠7:=by rintro rfl;exact h ⟨by simp,by simp⟩
 have kz:(q0==8)=false:=by simp;rintro rfl;exact h ⟨by simp,by simp⟩
 have K:q0≠8:=by rintro rfl;exact h ⟨by simp,by simp⟩
 have HF:=Kz (show X=0 by
  rw[q]
  show(if q0=1 then _ else if q0=2 then _ else if q0=3 then _ else if q0=4 then _ else if q0=5 then _ else if q0=6 then _ else if q0=7 then _ else if q0=8 then _ else _)=_
  rw[if_neg s,if_neg B,if_neg D,if_neg E,if_neg H,if_neg I,if_neg J,if_neg K])
 clear q h s B D E H I J K;delta Qz;go_in;go_wp2_with fail;go_ret;exact⟨by rw[HF.o];rfl,gd⟩
end Go.Proofs.YtdhighcpmcdmmaaGreat
