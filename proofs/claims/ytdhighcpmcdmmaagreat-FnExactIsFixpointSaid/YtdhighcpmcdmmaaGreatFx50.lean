/- Contracts and laws towards ReadsOf, part 51 of 54. No condition. -/
import Derived.Test.YtdhighcpmcdmmaaGreatFx45
import Derived.Test.YtdhighcpmcdmmaaGreatFx47
set_option maxHeartbeats 32000000
set_option maxRecDepth 10000
set_option linter.unusedVariables false
set_option linter.unusedSimpArgs false
namespace Go.Proofs.YtdhighcpmcdmmaaGreat
open Go.RowKit
open _root_.List (getElem_mem)
variable{d:Nat}
variable{fg fr:List Nat}{cg cr:Array Value}{g:af d}
theorem Ni(hE:OB 75 d)(fp fl:List Nat)(cs:Array Value)(u:Value)(x:aA d)(L:List ag)(w:World)(hx:Rd.rd fp w cs.toList x)(hL:SlR fl w u L)(hc:cZ (d+1) x≤1048576):
  Qz 75 #[.agg cs,u] w (.bool (pB (gX L (d+1) x))):=by
 obtain⟨q0,q1,q2,q3,q4,q5,q6,dA,dC,ky,rfl,rfl,-,gF,gH,gM,gT,ik,iw,bB,gm,gB⟩:=KU hx;have gD:=bB.op3;have HX:=Kz hx;have ae:=Kz bB;clear hx;have K:=Kz hL;obtain⟨al,kl,rfl,-,-,-⟩:=hL.open;have HC:=Kz hc;obtain⟨R,hR⟩:=nm (pB (gX L (d+1) ((q0,q1,q2,q3,q4,q5,q6):aA d)));rw[←hR];have HR:=Kz hR;clear hL hc hR gm gB gD gF gH gM gT ik iw bB
 by_cases hu:UsP L (d+1) ((q0,q1,q2,q3,q4,q5,q6):aA d)
 ·have HU:=Kz (bQ hu)
  have jN:=Kz hu;have q:=Kz (fun(W:World) (g:Gr w W)=>(show Calls Tryz.prog 148 #[.agg #[.int .i64 q0,.int .i64 q1,.int .i64 q2,.int .i64 q3,.string q4,.string q5,.slice dA q6.length dC],.slice al L.length kl] W fun e w'=>e=.returned (.bool true)∧Gr W w' from by rw[←HU.o];exact uf (d+1) _ _ _ _ ((q0,q1,q2,q3,q4,q5,q6):aA d) L W (Rd.gr HX.o g) (K.o.gr g) HC.o));clear hu
  by_cases h3:q0=3
  ·have jX:(q0==3)=true:=by simp[h3]
   have HT:=Kz (HR.o.trans (bQ (Ms h3)));clear h3;delta Qz;go_in;go_wp2_with fail;refine(q.o _ gd).mono ?_;rintro e w' ⟨rfl,H,rfl⟩;go_wp2_with fail;go_ret;exact⟨aa HT.o.symm,gd⟩
  ·have jX:(q0==3)=false:=by simpa using h3
   have hN:gX L (d+1) ((q0,q1,q2,q3,q4,q5,q6):aA d)↔Mg L d q0 q1 q6:=Mr (L:=L) (n:=d) (q0:=q0) (q1:=q1) (q2:=q2) (q3:=q3) (q4:=q4) (q5:=q5) (q6:=q6) jN.o h3;have dG:pB (gX L (d+1) ((q0,q1,q2,q3,q4,q5,q6):aA d))=pB (Mg L d q0 q1 q6):=iO hN;have O:=Kz (show R=pB (Mg L d q0 q1 q6) from HR.o.trans dG);clear hN dG;clear h3
   by_cases T:q6.length=2
   ·obtain⟨J,I,rfl⟩:=NM T
    have O:=Kz (O.o.trans (iO Og));clear T
    by_cases E:q0=4
    ·have U:(q0==4)=true:=by simp[E]
     have Y:(q0==5)=false:=by simp[E]
     have H4:=Kz E;clear E;obtain⟨s,co,c0,c1,c2,c3,c4,c5,c6,cf,cq,-,cr,-,ah,bD,bH,bK,bL,bN,bV⟩:=cB (xs:=[J,I]) ae.o (k:=0) (by simp);subst cq;rw[Nat.zero_mul,Nat.add_zero] at ah bD bH bK bL bN bV;have cr:=Kz (show Rd.rd cf w [c0,c1,c2,c3,c4,c5,c6] J from cr);have cc:=Kz (show cZ d J≤1048576 from uo (by simp) HC.o);have zc:=blk ah;obtain⟨eb,eo,e0,e1,e2,e3,e4,e5,e6,ef,eq,-,er,-,X,ai,aj,au,ax,ay,aL⟩:=cB (xs:=[J,I]) ae.o (k:=1) (by simp)
     obtain⟨rfl,rfl⟩:s=eb∧co=eo:=by
      injection eq with h;injection h with h1 T;exact⟨h1,T⟩
     clear eq;replace X:w.cell? ⟨s,co+7,none⟩=some e0:=X;replace ai:w.cell? ⟨s,co+7+1,none⟩=some e1:=ai;replace aj:w.cell? ⟨s,co+7+2,none⟩=some e2:=aj;replace au:w.cell? ⟨s,co+7+3,none⟩=some e3:=au;replace ax:w.cell? ⟨s,co+7+4,none⟩=some e4:=ax;replace ay:w.cell? ⟨s,co+7+5,none⟩=some e5:=ay;replace aL:w.cell? ⟨s,co+7+6,none⟩=some e6:=aL;have er:=Kz (show Rd.rd ef w [e0,e1,e2,e3,e4,e5,e6] I from er);have ec:=Kz (show cZ d I≤1048576 from uo (by simp) HC.o);have ze:=blk X;obtain⟨va,dL⟩:=nm (pB (gX L d J));have cK:=Kz dL;clear dL;obtain⟨vb,aN⟩:=nm (pB (gX L d I));have aS:=Kz aN;clear aN;obtain⟨Z,aV⟩:=nm (pB (UsP L d I));have aZ:=Kz aV;clear aV;have bg:=Kz (fun(W:World) (g:Gr w W)=>(show Calls Tryz.prog 75 #[.agg #[c0,c1,c2,c3,c4,c5,c6],.slice al L.length kl] W fun e w'=>e=.returned (.bool va)∧Gr W w' from by rw[cK.o];exact hE _ _ _ _ J L W (Rd.gr cr.o g) (K.o.gr g) cc.o));have bq:=Kz (fun(W:World) (g:Gr w W)=>(show Calls Tryz.prog 75 #[.agg #[e0,e1,e2,e3,e4,e5,e6],.slice al L.length kl] W fun e w'=>e=.returned (.bool vb)∧Gr W w' from by rw[aS.o];exact hE _ _ _ _ I L W (Rd.gr er.o g) (K.o.gr g) ec.o));have j4:=Kz (fun(W:World) (g:Gr w W)=>(show Calls Tryz.prog 148 #[.agg #[e0,e1,e2,e3,e4,e5,e6],.slice al L.length kl] W fun e w'=>e=.returned (.bool Z)∧Gr W w' from by rw[aZ.o];exact uf d _ _ _ _ I L W (Rd.gr er.o g) (K.o.gr g) ec.o));rcases Classical.em (q1=6∨q1=7) with hq|hq
     ·have B:=Kz (show R=(va&&vb) from O.o.trans (by rw[cK.o,aS.o,Bool.eq_iff_iff,Bool.and_eq_true,dx,dx,dx];exact⟨fun h=>h.2.elim (fun h=>h.2) (fun h=>by omega),fun h=>⟨H4.o,.inl ⟨hq,h⟩⟩⟩))
      rcases hq with rfl|rfl
      all_goals
       cases va
       ·skip
        delta Qz;go_in;go_wp2_with fail;refine(q.o _ gd).mono ?_;rintro e w' ⟨rfl,H,rfl⟩;go_wp2_with fail;refine(bg.o _ gd).mono ?_;rintro e w' ⟨rfl,yc,rfl⟩;go_wp2_with fail;go_ret;exact⟨aa (by rw[B.o];rfl),gd⟩
       ·skip
        delta Qz;go_in;go_wp2_with fail;refine(q.o _ gd).mono ?_;rintro e w' ⟨rfl,H,rfl⟩;go_wp2_with fail;refine(bg.o _ gd).mono ?_;rintro e w' ⟨rfl,yc,rfl⟩;go_wp2_with fail;refine(bq.o _ gd).mono ?_;rintro e w' ⟨rfl,ye,rfl⟩;go_wp2_with fail;go_ret;exact⟨aa (by rw[B.o];rfl),gd⟩
     ·rcases Classical.em (q1=8∨q1=12) with hr|hr
      ·have B:=Kz (show R=(va&&!Z) from O.o.trans (by rw[cK.o,aZ.o,Bool.eq_iff_iff,Bool.and_eq_true,Bool.not_eq_true',dx,dx,←Bool.not_eq_true,dx];exact⟨fun h=>h.2.elim (fun h=>absurd h.1 hq) (fun h=>h.2),fun h=>⟨H4.o,.inr ⟨hr,h⟩⟩⟩))
       clear hq;rcases hr with rfl|rfl
       all_goals
        cases va
        ·skip
         delta Qz;go_in;go_wp2_with fail;refine(q.o _ gd).mono ?_;rintro e w' ⟨rfl,H,rfl⟩;go_wp2_with fail;refine(bg.o _ gd).mono ?_;rintro e w' ⟨rfl,yc,rfl⟩;go_wp2_with fail;go_ret;exact⟨aa (by rw[B.o];rfl),gd⟩
        ·skip
         delta Qz;go_in;go_wp2_with fail;refine(q.o _ gd).mono ?_;rintro e w' ⟨rfl,H,rfl⟩;go_wp2_with fail;refine(bg.o _ gd).mono ?_;rintro e w' ⟨rfl,yc,rfl⟩;go_wp2_with fail;refine(j4.o _ gd).mono ?_;rintro e w' ⟨rfl,ye,rfl⟩;go_wp2_with fail;go_ret;exact⟨aa (by rw[B.o];rfl),gd⟩
      ·have B:=Kz (show R=false from O.o.trans (bz fun h=>h.2.elim (fun h=>hq h.1) (fun h=>hr h.1)))
       have i6:(q1==6)=false:=by simp;omega
       have i7:(q1==7)=false:=by simp;omega
       have i8:(q1==8)=false:=by simp;omega
       have i12:(q1==12)=false:=by simp;omega
       clear hq hr;delta Qz;go_in;go_wp2_with fail;refine(q.o _ gd).mono ?_;rintro e w' ⟨rfl,H,rfl⟩;go_wp2_with fail;go_ret;exact⟨aa B.o.symm,gd⟩
    ·have U:(q0==4)=false:=by simpa using E
     have B:=Kz (show R=false from O.o.trans (bz fun h=>E h.1));clear E
     by_cases D:q0=5
     ·have Y:(q0==5)=true:=by simp[D]
      clear D;delta Qz;go_in;go_wp2_with fail;refine(q.o _ gd).mono ?_;rintro e w' ⟨rfl,H,rfl⟩;go_wp2_with fail;go_ret;exact⟨aa B.o.symm,gd⟩
     ·have Y:(q0==5)=false:=by simpa using D
      clear D;delta Qz;go_in;go_wp2_with fail;refine(q.o _ gd).mono ?_;rintro e w' ⟨rfl,H,rfl⟩;go_wp2_with fail;go_ret;exact⟨aa B.o.symm,gd⟩
   ·have j5:((q6.length:Int)==2)=false:=by simp;omega
    by_cases hl:q6.length=3
    ·obtain⟨J,I,xc,rfl⟩:=MI hl
     have O:=Kz (O.o.trans (iO N7));clear hl T j5
     by_cases D:q0=5
     ·have Y:(q0==5)=true:=by simp[D]
      have U:(q0==4)=false:=by simp[D]
      have H5:=Kz D;clear D;obtain⟨s,co,c0,c1,c2,c3,c4,c5,c6,cf,cq,-,cr,-,ah,bD,bH,bK,bL,bN,bV⟩:=cB (xs:=[J,I,xc]) ae.o (k:=0) (by simp);subst cq;rw[Nat.zero_mul,Nat.add_zero] at ah bD bH bK bL bN bV;have cr:=Kz (show Rd.rd cf w [c0,c1,c2,c3,c4,c5,c6] J from cr);have cc:=Kz (show cZ d J≤1048576 from uo (by simp) HC.o);have zc:=blk ah;obtain⟨eb,eo,e0,e1,e2,e3,e4,e5,e6,ef,eq,-,er,-,X,ai,aj,au,ax,ay,aL⟩:=cB (xs:=[J,I,xc]) ae.o (k:=1) (by simp)
      obtain⟨rfl,rfl⟩:s=eb∧co=eo:=by
       injection eq with h;injection h with h1 T;exact⟨h1,T⟩
      clear eq;replace X:w.cell? ⟨s,co+7,none⟩=some e0:=X;replace ai:w.cell? ⟨s,co+7+1,none⟩=some e1:=ai;replace aj:w.cell? ⟨s,co+7+2,none⟩=some e2:=aj;replace au:w.cell? ⟨s,co+7+3,none⟩=some e3:=au;replace ax:w.cell? ⟨s,co+7+4,none⟩=some e4:=ax;replace ay:w.cell? ⟨s,co+7+5,none⟩=some e5:=ay;replace aL:w.cell? ⟨s,co+7+6,none⟩=some e6:=aL;have er:=Kz (show Rd.rd ef w [e0,e1,e2,e3,e4,e5,e6] I from er);have ec:=Kz (show cZ d I≤1048576 from uo (by simp) HC.o);have ze:=blk X;obtain⟨mb,mo,m0,m1,m2,m3,m4,m5,m6,mf,mq,-,mr,-,cO,dU,dW,eH,fe,fu,fw⟩:=cB (xs:=[J,I,xc]) ae.o (k:=2) (by simp)
      obtain⟨rfl,rfl⟩:s=mb∧co=mo:=by
       injection mq with h;injection h with h1 T;exact⟨h1,T⟩
      clear mq;replace cO:w.cell? ⟨s,co+14,none⟩=some m0:=cO;replace dU:w.cell? ⟨s,co+14+1,none⟩=some m1:=dU;replace dW:w.cell? ⟨s,co+14+2,none⟩=some m2:=dW;replace eH:w.cell? ⟨s,co+14+3,none⟩=some m3:=eH;replace fe:w.cell? ⟨s,co+14+4,none⟩=some m4:=fe;replace fu:w.cell? ⟨s,co+14+5,none⟩=some m5:=fu;replace fw:w.cell? ⟨s,co+14+6,none⟩=some m6:=fw;have mr:=Kz (show Rd.rd mf w [m0,m1,m2,m3,m4,m5,m6] xc from mr);have mc:=Kz (show cZ d xc≤1048576 from uo (by simp) HC.o);have zm:=blk cO;obtain⟨Z,aV⟩:=nm (pB (UsP L d J));have aZ:=Kz aV;clear aV;obtain⟨vb,aN⟩:=nm (pB (gX L d I));have aS:=Kz aN;clear aN;obtain⟨vc,fA⟩:=nm (pB (gX L d xc));have fK:=Kz fA;clear fA;have dz:=Kz (fun(W:World) (g:Gr w W)=>(show Calls Tryz.prog 148 #[.agg #[c0,c1,c2,c3,c4,c5,c6],.slice al L.length kl] W fun e w'=>e=.returned (.bool Z)∧Gr W w' from by rw[aZ.o];exact uf d _ _ _ _ J L W (Rd.gr cr.o g) (K.o.gr g) cc.o));have bq:=Kz (fun(W:World) (g:Gr w W)=>(show Calls Tryz.prog 75 #[.agg #[e0,e1,e2,e3,e4,e5,e6],.slice al L.length kl] W fun e w'=>e=.returned (.bool vb)∧Gr W w' from by rw[aS.o];exact hE _ _ _ _ I L W (Rd.gr er.o g) (K.o.gr g) ec.o));have ku:=Kz (fun(W:World) (g:Gr w W)=>(show Calls Tryz.prog 75 #[.agg #[m0,m1,m2,m3,m4,m5,m6],.slice al L.length kl] W fun e w'=>e=.returned (.bool vc)∧Gr W w' from by rw[fK.o];exact hE _ _ _ _ xc L W (Rd.gr mr.o g) (K.o.gr g) mc.o));have B:=Kz (show R=(!Z&&vb&&vc) from O.o.trans (by rw[aZ.o,aS.o,fK.o,Bool.eq_iff_iff,Bool.and_eq_true,Bool.and_eq_true,Bool.not_eq_true',dx,dx,dx,←Bool.not_eq_true,dx];exact⟨fun h=>⟨⟨h.2.1,h.2.2.1⟩,h.2.2.2⟩,fun h=>⟨H5.o,h.1.1,h.1.2,h.2⟩⟩));rcases(show Z=true∨(Z=false∧vb=false)∨(Z=false∧vb=true) by cases Z<;>cases vb<;>simp) with rfl|⟨rfl,rfl⟩|⟨rfl,rfl⟩
      ·skip
       delta Qz;go_in;go_wp2_with fail;refine(q.o _ gd).mono ?_;rintro e w' ⟨rfl,H,rfl⟩;go_wp2_with fail;refine(dz.o _ gd).mono ?_;rintro e w' ⟨rfl,yc,rfl⟩;go_wp2_with fail;go_ret;exact⟨aa (by rw[B.o];rfl),gd⟩
      ·skip
       delta Qz;go_in;go_wp2_with fail;refine(q.o _ gd).mono ?_;rintro e w' ⟨rfl,H,rfl⟩;go_wp2_with fail;refine(dz.o _ gd).mono ?_;rintro e w' ⟨rfl,yc,rfl⟩;go_wp2_with fail;refine(bq.o _ gd).mono ?_;rintro e w' ⟨rfl,ye,rfl⟩;go_wp2_with fail;go_ret;exact⟨aa (by rw[B.o];rfl),gd⟩
      ·skip
       delta Qz;go_in;go_wp2_with fail;refine(q.o _ gd).mono ?_;rintro e w' ⟨rfl,H,rfl⟩;go_wp2_with fail;refine(dz.o _ gd).mono ?_;rintro e w' ⟨rfl,yc,rfl⟩;go_wp2_with fail;refine(bq.o _ gd).mono ?_;rintro e w' ⟨rfl,ye,rfl⟩;go_wp2_with fail;refine(ku.o _ gd).mono ?_;rintro e w' ⟨rfl,ym,rfl⟩;go_wp2_with fail;go_ret;exact⟨aa (by rw[B.o];rfl),gd⟩
     ·have Y:(q0==5)=false:=by simpa using D
      have B:=Kz (show R=false from O.o.trans (bz fun h=>D h.1));clear D
      by_cases E:q0=4
      ·have U:(q0==4)=true:=by simp[E]
       clear E;delta Qz;go_in;go_wp2_with fail;refine(q.o _ gd).mono ?_;rintro e w' ⟨rfl,H,rfl⟩;go_wp2_with fail;go_ret;exact⟨aa B.o.symm,gd⟩
      ·have U:(q0==4)=false:=by simpa using E
       clear E;delta Qz;go_in;go_wp2_with fail;refine(q.o _ gd).mono ?_;rintro e w' ⟨rfl,H,rfl⟩;go_wp2_with fail;go_ret;exact⟨aa B.o.symm,gd⟩
    ·have kz:((q6.length:Int)==3)=false:=by simp;omega
     have B:=Kz (show R=false from O.o.trans (bz (Ns T hl)));clear T hl;rcases Classical.em (q0=5) with D|D
     ·have Y:(q0==5)=true:=by simp[D]
      have U:(q0==4)=false:=by simp[D]
      clear D;delta Qz;go_in;go_wp2_with fail;refine(q.o _ gd).mono ?_;rintro e w' ⟨rfl,H,rfl⟩;go_wp2_with fail;go_ret;exact⟨aa B.o.symm,gd⟩
     ·have Y:(q0==5)=false:=by simpa using D
      clear D;rcases Classical.em (q0=4) with E|E
      ·have U:(q0==4)=true:=by simp[E]
       clear E;delta Qz;go_in;go_wp2_with fail;refine(q.o _ gd).mono ?_;rintro e w' ⟨rfl,H,rfl⟩;go_wp2_with fail;go_ret;exact⟨aa B.o.symm,gd⟩
      ·have U:(q0==4)=false:=by simpa using E
       clear E;delta Qz;go_in;go_wp2_with fail;refine(q.o _ gd).mono ?_;rintro e w' ⟨rfl,H,rfl⟩;go_wp2_with fail;go_ret;exact⟨aa B.o.symm,gd⟩
 ·have HU:=Kz (bz hu)
  have q:=Kz (fun(W:World) (g:Gr w W)=>(show Calls Tryz.prog 148 #[.agg #[.int .i64 q0,.int .i64 q1,.int .i64 q2,.int .i64 q3,.string q4,.string q5,.slice dA q6.length dC],.slice al L.length kl] W fun e w'=>e=.returned (.bool false)∧Gr W w' from by rw[←HU.o];exact uf (d+1) _ _ _ _ ((q0,q1,q2,q3,q4,q5,q6):aA d) L W (Rd.gr HX.o g) (K.o.gr g) HC.o));have HT:=Kz (HR.o.trans (bQ (Nt hu)));clear hu;delta Qz;go_in;go_wp2_with fail;refine(q.o _ gd).mono ?_;rintro e w' ⟨rfl,H,rfl⟩;go_wp2_with fail;go_ret;exact⟨aa HT.o.symm,gd⟩
theorem LC:(d:Nat)→OB 75 d
 |0=>by intro fp fl cs u x;exact PEmpty.elim x
 |d+1=>fun fp fl cs u x L w q s hc=>Ni (LC d) fp fl cs u x L w q s hc
theorem FM{fo:List Nat}{co:Array Value}(g:af d)(r:aW d)(o:ag)(E H:Nat)(tg T:TypeId)(w:World)(s:Rd.rd fg w cg.toList g)(B:Rd.rd fr w cr.toList r)(D:Rd.rd fo w co.toList o)(vg:az w E tg cg.toList)(I:az w H T cr.toList):
  Qz 292 #[.agg co,.pointer (some ⟨E,0,none⟩),.pointer (some ⟨H,0,none⟩)] w (.bool (!pB (qp g r o))):=by
 obtain⟨bb,q⟩:∃b:Bool,b=pB (qp g r o):=⟨_,rfl⟩;have J:=Kz q;rw[←q];clear q;have U:=Kz s;obtain⟨X,Y,aS,aV,aZ,bq,bB,bD,rfl,rfl,-,bH,Z,ae,bK,ah,ai⟩:=yt s;clear s;have HR:=Kz B;obtain⟨r0,r1,r2,r3,r4,r5,bL,bN,bV,cK,cO,dz,dA,dC,dG,rfl,rfl,-,dL,dU,dW,aj,au,eH,ax,ay,fe,aL,aN⟩:=KV B;clear B;have HO:=Kz D;obtain⟨o0,o1,rfl,rfl,-,fu,fw⟩:=KT D;clear D;obtain⟨K,fA⟩:=vg.c2;obtain⟨O,fK,gm,gB,gD,gF⟩:=I.c6;have gH:=blk K;have gM:=blk O;clear vg I;delta Qz;go_in;go_wp2_with fail;refine(xK (X,Y) (r0,r1,r2,r3,r4,r5) (o0,o1) _ (Rd.gr U.o gd) (Rd.gr HR.o gd) (Rd.gr HO.o gd)).mono ?_;rw[←J.o];rintro e w' ⟨rfl,x3,rfl⟩;go_wp2_with fail;go_ret;exact⟨rfl,gd⟩
theorem Hg{fx:List Nat}{cx:Array Value}(g:af d)(r:aW d)(x:aA d)(s B:Nat)(tg U:TypeId)(w:World)(X:Rd.rd fg w cg.toList g)(Y:Rd.rd fr w cr.toList r)(H:Rd.rd fx w cx.toList x)(vg:az w s tg cg.toList)(Z:az w B U cr.toList)(hl:cZ (d+1) x≤1048576):
  Qz 291 #[.agg cx,.pointer (some ⟨s,0,none⟩),.pointer (some ⟨B,0,none⟩)] w (.bool (!pB (kg g r x))):=by
 have HG:=Kz X;have HR:=Kz Y;have HX:=Kz H;have VG:=Kz vg;have VR:=Kz Z;have HL:=Kz hl;obtain⟨US,q⟩:=nm (gP (d+1) x);have E:=Kz q;obtain⟨R,I⟩:=nm (pB (kg g r x));rw[←I];have J:=Kz (show R=pB (∀o∈US,qp g r o) by rw[I,q];rfl);obtain⟨x0,x1,x2,x3,x4,x5,ax,lx,kx,rfl⟩:=eO H;clear X Y H vg Z hl I q;delta Qz;go_in;go_wp2_with fail;refine(Ba _ _ x _ (Rd.gr HX.o gd) HL.o).mono ?_;rintro e w' ⟨u,fq,K,rfl,O,hm,z1,rfl⟩;have HS:=Kz O;have HM:=Kz (show R=pB (∀o∈K,qp g r o) from J.o.trans (iO ⟨fun h o T=>h o (by rw[E.o];exact(hm o).1 T),fun h o T=>h o ((hm o).2 (by rw[←E.o];exact T))⟩));obtain⟨aq,kq,rfl,-,-,-⟩:=O.open;clear O hm
 have HT:=Kz (fun(W:World) (D:Gr w W)=>show TestOccurrence W 292 #[.pointer (some ⟨s,0,none⟩),.pointer (some ⟨B,0,none⟩)] (fun o=>!pB (qp g r o)) K from
  ⟨Tryz.call292,fun z _ x fp cs hz=>FM g r z s B tg U _ (Rd.gr HG.o (D.trans gd)) (Rd.gr HR.o (D.trans gd)) hz (VG.o.gr (D.trans gd)) (VR.o.gr (D.trans gd))⟩)
 go_wp2_with (first|(go_at_call 211;refine(jo _ _ K _ _ (fun o=>!pB (qp g r o)) _ (HS.o.gr gd) (HT.o _ gd)).mono ?_;rintro e w' ⟨rfl,x2,rfl⟩;rw[wu,←HM.o]))
 go_ret;exact⟨rfl,gd⟩
theorem Fh{α:Type}(f:α→Nat)(xs:List α){k:Nat}(h:k<xs.length):f xs[k]+1≤wtL f xs:=by
 have q:=eZ f xs k h;have s:=gJ f xs (k+1);unfold wtL;omega
theorem Ib{r:aW d}{y:GE (d+1)}(h:y∈nH r):ak (y:aA d)+1≤bF r:=by
 obtain⟨E,H,I,J,B,s⟩:=r;have hw:bF (E,H,I,J,B,s)=E.size+H.size+wtL ByteArray.size I+wtL aU B+wtL aI s:=rfl;rcases List.mem_append.1 h with D|D
 ·obtain⟨q,U,rfl⟩:=List.mem_map.1 D
  obtain⟨i,K,rfl⟩:=List.mem_iff_getElem.1 U;have X:=Fh aU B K;have Y:aU B[i]=dn B[i].1+ak B[i].2:=rfl;simp only at*;omega
 ·obtain⟨c,hc,D⟩:=List.mem_flatMap.1 D
  obtain⟨i,K,rfl⟩:=List.mem_iff_getElem.1 hc;have X:=Fh aI s K;have Y:aI s[i]=s[i].1.size+s[i].2.1.size+ak s[i].2.2.1+ak s[i].2.2.2:=rfl;rcases List.mem_cons.1 D with Z|D
  ·have O:∀z:aA d,z=s[i].2.2.1→ak z+1≤bF (E,H,I,J,B,s):=fun z T=>by rw[T];omega
   exact O y Z
  ·have O:∀z:aA d,z=s[i].2.2.2→ak z+1≤bF (E,H,I,J,B,s):=fun z T=>by rw[T];omega
   exact O y (List.mem_singleton.1 D)
theorem Ex{r:aW d}:(∀y∈nH r,kg g r y)↔kH g r:=by
 constructor
 ·intro h
  exact⟨fun q B=>h q.2 (List.mem_append_left _ (List.mem_map_of_mem B)),fun c hc=>⟨h c.2.2.1 (List.mem_append_right _ (List.mem_flatMap.2 ⟨c,hc,by simp⟩)),h c.2.2.2 (List.mem_append_right _ (List.mem_flatMap.2 ⟨c,hc,by simp⟩))⟩⟩
 ·rintro⟨E,D⟩ y s
  rcases List.mem_append.1 s with s|s
  ·obtain⟨q,B,rfl⟩:=List.mem_map.1 s
   exact E q B
  ·obtain⟨c,hc,s⟩:=List.mem_flatMap.1 s
   simp only[List.mem_cons,List.not_mem_nil,or_false] at s;rcases s with rfl|rfl
   ·exact(D c hc).1
   ·exact(D c hc).2
theorem xG:IE d:=by
 intro fg fr cg cr g r w hg T hl Y
 have aZ:=Kz hg;have bg:=Kz T;have Z:=Kz Y;obtain⟨J,K,ae,ah,dA,ai,aj,dC,rfl,rfl,-,dG,bB,bD,dL,bH,bK⟩:=yt hg;clear hg;have HR:=Kz T;obtain⟨q,s,D,E,H,I,au,ax,dU,ay,aL,dW,aN,aS,eH,rfl,rfl,-,fe,fu,fw,bL,bN,fA,bV,cK,fK,cO,dz⟩:=KV T;clear T;obtain⟨R,hR⟩:=nm (pB (kH (J,K) (q,s,D,E,H,I)));have bq:=Kz hR;rw[←hR];clear hl Y hR;go_in;go_wp2_with fail;generalize U:((w.alloc (.cells #[.slice ae J.length ah,.slice ai K.length aj] 36)).alloc (.cells #[.string q,.string s,.slice au D.length ax,.bool E,.slice ay H.length aL,.slice aN I.length aS] 112))=B;have gB:Gr w B:=gb U;have VG:=Kz (show az B w.heap.size 36 (Array.toList #[.slice ae J.length ah,.slice ai K.length aj]) from by rw[←U];exact(az.new (A:=w) rfl).gr gd);have VR:=Kz (show az B (w.heap.size+1) 112 (Array.toList #[.string q,.string s,.slice au D.length ax,.bool E,.slice ay H.length aL,.slice aN I.length aS]) from by rw[←U];exact az.new (by simp));have O:=Kz gB;clear U gB;refine(yD (q,s,D,E,H,I) _ (Rd.gr HR.o O.o) Z.o).mono ?_;rintro e w' ⟨v,fq,rfl,hs,x1,rfl⟩;have HS:=Kz hs;obtain⟨aq,kq,rfl,-,-,-⟩:=hs.open;clear hs
 have HT:=Kz (fun(W:World) (X:Gr B W)=>show TestExpr W 291 #[.pointer (some ⟨w.heap.size,0,none⟩),.pointer (some ⟨w.heap.size+1,0,none⟩)] (fun y:GE (d+1)=>!pB (kg (J,K) (q,s,D,E,H,I) y)) (nH (q,s,D,E,H,I)) from
  ⟨Tryz.call291,fun z hz x fp cs T=>Hg (J,K) (q,s,D,E,H,I) z w.heap.size (w.heap.size+1) _ _ _ (Rd.gr aZ.o (O.o.trans (X.trans gd))) (Rd.gr bg.o (O.o.trans (X.trans gd))) T (VG.o.gr (X.trans gd)) (VR.o.gr (X.trans gd)) (by
   have h1:=AQ (d+1) z;have h2:wtE (d+1) z=ak (z:aA d):=rfl;have h3:=Ib hz;have h4:=Z.o;omega)⟩)
 go_wp2_with fail;have HC:=kK (d:=d+1) _ _ (nH (q,s,D,E,H,I)) _ _ (fun y:GE (d+1)=>!pB (kg (J,K) (q,s,D,E,H,I) y)) _ (HS.o.gr gd) (HT.o _ gd)
 have aV:((nH (q,s,D,E,H,I)).any fun y:GE (d+1)=>!pB (kg (J,K) (q,s,D,E,H,I) y))=!R:=by
  rw[bq.o,←iO Ex];exact wu
 refine HC.mono ?_
 rintro e w' ⟨he,x2,rfl⟩;obtain rfl:e=.returned (.bool (!R)):=he.trans (congrArg (fun b=>Ending.returned (.bool b)) aV);go_wp2_with fail;go_ret;exact⟨rfl,O.o.trans gd⟩
def NU(a:aQ):Bool:=decide (a.2.2.1=3)
def Ot(s:bC):Bool:=s.2.any NU
theorem NQ:(g.1.any Ot)=!pB (Mf g):=by
 rw[Bool.eq_iff_iff,List.any_eq_true,Bool.not_eq_true',←Bool.not_eq_true,dx];constructor
 ·rintro⟨s,q,h⟩ E
  obtain⟨a,B,D⟩:=List.any_eq_true.1 h;exact E s q a B (of_decide_eq_true D)
 ·intro h
  obtain⟨s,q⟩:=Classical.not_forall.1 h;obtain⟨H,I⟩:=Classical.not_imp.1 q;obtain⟨a,B⟩:=Classical.not_forall.1 I;obtain⟨D,J⟩:=Classical.not_imp.1 B;exact⟨s,H,List.any_eq_true.2 ⟨a,D,decide_eq_true (Classical.not_not.1 J)⟩⟩
theorem LZ(fp:List Nat)(cs:Array Value)(x:aQ)(w:World)(q:Rd.rd fp w cs.toList x):
  Qz 72 #[.agg cs] w (.bool (NU x)):=by
 obtain⟨q0,q1,q2,q3,rfl,rfl,-,-,-,-⟩:=Ld q;clear q
 show Calls _ _ _ _ fun e w'=>e=.returned (.bool (decide (q2=3)))∧Gr w w'
 (try delta Qz);go_in
 go_wp2
 go_ret;exact⟨by first|rfl|(congr 1),gd⟩
theorem MV(fp:List Nat)(cs:Array Value)(x:bC)(b:Nat)(w:World)(q:Rd.rd fp w cs.toList x)(hc:w.cell? ⟨b,0,none⟩=some (.func (.func 72) #[] #[])):
  Qz 141 #[.agg cs,.pointer (some ⟨b,0,none⟩)] w (.bool (Ot x)):=by
 obtain⟨q0,q1⟩:=x;obtain⟨v,f,rfl,-,-,hu⟩:=dB q0 q1 q;have H:=blk hc;have B:=Kz hu;obtain⟨a,c,rfl,-,-,-⟩:=hu.open
 have s:∀w':World,TestAttribute w' 72 #[] NU q1:=fun w'=>
  ⟨Tryz.call72,fun y _ x fp cs D=>LZ fp cs y _ D⟩
 have E:=Kz s;clear q hu s;delta Qz;go_in;go_wp2_with fail;refine(gW _ _ q1 _ _ _ _ (B.o.gr gd) (E.o _)).mono ?_;rintro e w1 ⟨rfl,I,rfl⟩;go_wp2_with fail;go_ret;exact⟨rfl,gd⟩
theorem Mc(fp:List Nat)(cs:Array Value)(x:af d)(w:World)(s:Rd.rd fp w cs.toList x):
  Qz 71 #[.agg cs,.func (.func 72) #[] #[]] w (.bool (!pB (Mf x))):=by
 rw[←NQ];obtain⟨q,B⟩:=x;obtain⟨v0,f0,v1,f1,rfl,-,hu,D⟩:=aB q B s;have H:=Kz hu;obtain⟨a0,I,rfl,-,-,-⟩:=hu.open;obtain⟨a1,J,rfl,-,-,-⟩:=D.open;clear s hu D
 have E:∀w':World,TestSymbol ((w.alloc (.cells #[.slice a0 q.length I,.slice a1 B.length J] 36)).alloc (.cells #[.func (.func 72) #[] #[]] 128)) 141 #[.pointer (some ⟨w.heap.size+1,0,none⟩)] Ot q:=fun _=>
  ⟨Tryz.call141,fun y _ x fp cs K=>MV fp cs y (w.heap.size+1) _ K (Gr.keep (Gr.ext (Gr.refl _) x) (aJ (by simp) rfl))⟩
 have O:=Kz (E w);clear E;delta Qz;go_in;go_wp2_with fail;refine(nk _ _ q _ _ _ _ (H.o.gr gd) O.o).mono ?_;rintro e w1 ⟨rfl,T,rfl⟩;go_wp2_with fail;go_ret;exact⟨rfl,gd⟩
theorem MU(r:aW d)(w:World)(q:Rd.rd fr w cr.toList r)(J:bF r≤1048576):
  Qz 136 #[.agg cr] w (.bool (!pB (∀x∈nH r,bX (d+1) x))):=by
 have K:=Kz J;obtain⟨R,O⟩:=nm (pB (∀x∈nH r,bX (d+1) x));rw[←O];have T:=Kz O;clear O J;have Y:=Kz q;obtain⟨s,B,D,E,H,I,ax,ay,aL,aN,aS,aV,aZ,bg,bq,rfl,rfl,-,bB,bD,bH,Z,ae,bK,ah,ai,bL,aj,au⟩:=KV q;clear q;delta Qz;go_in;go_wp2_with fail;refine(yD (s,B,D,E,H,I) _ (Rd.gr Y.o gd) K.o).mono ?_;rintro e w' ⟨v,fq,rfl,U,x1,rfl⟩;have HS:=Kz U;obtain⟨aq,kq,rfl,-,-,-⟩:=U.open;clear U
 have HT:=Kz (fun(W:World)=>show TestExpr W 139 #[] (fun y:GE (d+1)=>!pB (bX (d+1) y)) (nH (s,B,D,E,H,I)) from
  ⟨Tryz.call139,fun z hz x fp cs q=>Me fp cs z _ q (by have h3:=Ib hz;have h4:=K.o;omega)⟩)
 go_wp2_with fail;have HC:=kK (d:=d+1) _ _ (nH (s,B,D,E,H,I)) _ _ (fun y:GE (d+1)=>!pB (bX (d+1) y)) _ (HS.o.gr gd) (HT.o _)
 have X:((nH (s,B,D,E,H,I)).any fun y:GE (d+1)=>!pB (bX (d+1) y))=!R:=by
  rw[T.o];exact wu
 refine HC.mono ?_
 rintro e w' ⟨he,x2,rfl⟩;obtain rfl:e=.returned (.bool (!R)):=he.trans (congrArg (fun b=>Ending.returned (.bool b)) X);go_wp2_with fail;go_ret;exact⟨rfl,gd⟩
theorem LG(g:af d)(w:World)(E:Rd.rd fg w cg.toList g)(H:aP g≤1048576):
  Qz 70 #[.agg cg] w (.bool (!pB (∀r∈g.2,∀x∈nH r,bX (d+1) x))):=by
 obtain⟨R,B⟩:=nm (pB (∀r∈g.2,∀x∈nH r,bX (d+1) x));rw[←B];obtain⟨K,q,ae,ah,ai,aj,au,ax,rfl,rfl,-,ay,O,T,I,U,X⟩:=yt E;clear E;have D:=Kz (show((q:List (aW d)).any fun r=>!pB (∀x∈nH r,bX (d+1) x))=!R by rw[B];exact wu);have s:wtL bM K+wtL bF q≤1048576:=H;have Y:=Kz s;clear H s B
 have Z:=Kz (fun(W:World)=>show TestRule W 136 #[] (fun r:aW d=>!pB (∀x∈nH r,bX (d+1) x)) q from
  ⟨Tryz.call136,fun z hz x fp cs hr=>MU z _ hr (by
   obtain⟨j,hj,rfl⟩:=List.mem_iff_getElem.1 hz;have h3:=dI bF q hj;have h4:=Y.o;omega)⟩)
 have J:=Kz I;delta Qz;go_in;go_wp2_with fail;refine(oQ _ _ q _ _ (fun r:aW d=>!pB (∀x∈nH r,bX (d+1) x)) _ (J.o.gr gd) (Z.o _)).mono ?_;rintro e w' ⟨he,x2,rfl⟩;obtain rfl:e=.returned (.bool (!R)):=he.trans (congrArg (fun b=>Ending.returned (.bool b)) D.o);go_wp2_with fail;go_ret;exact⟨rfl,gd⟩
theorem Ol(q:jI g){r:aW d}(B:r∈g.2)(I:aP g≤1048576):(zq g r).length≤1048576:=by
 have J:r.2.2.1.length≤3:=(q.1.2.2.1.2.2.1 r B).2.2.1
 have D:∀p∈List.range (r.2.2.1.length+1),(occAt g r p).length≤4:=fun p _=>by
  have K:(occAt g r p).length=(wL (Je g r (p:Int))).length:=by unfold occAt;rw[Nr,List.length_map]
  have O:=Lv (Je g r (p:Int))
  have T:(Je g r (p:Int)).length≤4:=by
   unfold Je
   cases E:bW g.1 (j6 r (p:Int)) with
   |none=>show([]:List aQ).length≤_;simp
   |some s=>
    have hm:s∈g.1:=List.mem_of_find?_eq_some E;exact(q.1.2.2.1.1 s hm).2.1
  omega
 have H:=uU (occAt g r) 4 (List.range (r.2.2.1.length+1)) D;rw[List.length_range] at H;have U:(zq g r).length=((List.range (r.2.2.1.length+1)).flatMap (occAt g r)).length:=rfl;omega
theorem LW(g:af d)(w:World)(hg:Rd.rd fg w cg.toList g)(hl:aP g≤1048576):
  Qz 31 #[.agg cg] w (.bool (pB (Mx g))):=by
 have I:=Kz hl;have X:=Kz hg;obtain⟨E,s,gM,gT,rq,ik,jN,rD,rfl,rfl,-,rE,oW,o9,jX,pG,pM⟩:=yt hg;have l6:=jX.op3;clear hg;have ay:wtL bM E+wtL bF s≤1048576:=hl;have rR:s.length≤1048576:=by have:=bT bF s;omega
 have HL:=Kz ay;obtain⟨R,hR⟩:=nm (pB (Mx (E,s)));rw[←hR];have aN:=Kz (show R=pB (jI (E,s)∧(∀r∈s,∀x∈nH r,bX (d+1) x)∧Mf (E,s)∧∀r∈s,∀q∈r.2.2.2.2.1,q.1∈q8 (E,s) r→gX (q8 (E,s) r) (d+1) q.2) from hR.trans (iO Oy.symm));obtain⟨ba,j4⟩:=nm (pB (jI (E,s)));obtain⟨bb,dz⟩:=nm (pB (∀r∈s,∀x∈nH r,bX (d+1) x));obtain⟨bc,j5⟩:=nm (pB (Mf (E,s)));have Y:=Kz j4;have aj:=Kz dz;have aS:=Kz j5;clear hl ay hR j4 dz j5;delta Qz;go_in
 go_upto_region 1 with fail
 generalize hB:(w.alloc (.cells #[.slice gM E.length gT,.slice ik s.length jN] 36))=B;have K:Gr w B:=gb hB;obtain⟨ku,ky⟩:=kb2 hB (w.heap.size) (.slice gM E.length gT) (.slice ik s.length jN);have sB:B.heap.size=w.heap.size+1:=szB hB;clear hB;have y0:=ku _ (Gr.refl _);have y1:=ky _ (Gr.refl _);have zy:=blk y0
 cases ba with
 |false=>
  have HF:=Kz (show R=false from aN.o.trans (bz fun h=>lM Y.o.symm h.1))
  go_wp2_with (first|(go_at_call 69;refine(uu xG uG (E,s) _ (Rd.gr X.o (K.trans gd)) I.o).mono ?_;rintro e w' ⟨rfl,x1,rfl⟩;rw[←Y.o]))
  go_ret;exact⟨aa HF.o.symm,K.trans gd⟩
 |true=>
  cases bb with
  |false=>
   have HF:=Kz (show R=false from aN.o.trans (bz fun h=>lM aj.o.symm h.2.1))
   go_wp2_with (first|(go_at_call 69;refine(uu xG uG (E,s) _ (Rd.gr X.o (K.trans gd)) I.o).mono ?_;rintro e w' ⟨rfl,x1,rfl⟩;rw[←Y.o])|(go_at_call 70;refine(LG (E,s) _ (Rd.gr X.o (K.trans gd)) I.o).mono ?_;rintro e w' ⟨rfl,x2,rfl⟩;rw[←aj.o]))
   go_ret;exact⟨aa HF.o.symm,K.trans gd⟩
  |true=>
   cases bc with
   |false=>
    have HF:=Kz (show R=false from aN.o.trans (bz fun h=>lM aS.o.symm h.2.2.1))
    go_wp2_with (first|(go_at_call 69;refine(uu xG uG (E,s) _ (Rd.gr X.o (K.trans gd)) I.o).mono ?_;rintro e w' ⟨rfl,x1,rfl⟩;rw[←Y.o])|(go_at_call 70;refine(LG (E,s) _ (Rd.gr X.o (K.trans gd)) I.o).mono ?_;rintro e w' ⟨rfl,x2,rfl⟩;rw[←aj.o])|(go_at_call 71;refine(Mc _ _ (E,s) _ (Rd.gr X.o (K.trans gd))).mono ?_;rintro e w' ⟨rfl,x3,rfl⟩;rw[←aS.o]))
    go_ret;exact⟨aa HF.o.symm,K.trans gd⟩
   |true=>
    have kz:=Kz (dx.1 Y.o.symm);have kE:=Kz (show R=pB (∀r∈s,∀q∈r.2.2.2.2.1,q.1∈q8 (E,s) r→gX (q8 (E,s) r) (d+1) q.2) from aN.o.trans (iO ⟨fun h=>h.2.2.2,fun h=>⟨kz.o,dx.1 aj.o.symm,dx.1 aS.o.symm,h⟩⟩))
    go_wp2_with (first|(go_at_call 69;refine(uu xG uG (E,s) _ (Rd.gr X.o (K.trans gd)) I.o).mono ?_;rintro e w' ⟨rfl,x1,rfl⟩;rw[←Y.o])|(go_at_call 70;refine(LG (E,s) _ (Rd.gr X.o (K.trans gd)) I.o).mono ?_;rintro e w' ⟨rfl,x2,rfl⟩;rw[←aj.o])|(go_at_call 71;refine(Mc _ _ (E,s) _ (Rd.gr X.o (K.trans gd))).mono ?_;rintro e w' ⟨rfl,x3,rfl⟩;rw[←aS.o]))
    clear y0 y1 zy
    go_loopw [22] (fun dA wr=>∃k:Nat,k≤s.length∧Ky (∀r∈s.take k,∀q∈r.2.2.2.2.1,q.1∈q8 (E,s) r→gX (q8 (E,s) r) (d+1) q.2)∧Ky (Gr B wr)∧dA=.int .i64 k) (fun dA _=>s.length - (intOf dA).toNat)
    case atStart=>exact⟨0,by omega,Kz (by simp),Kz gd,rfl⟩
    case round=>
     obtain⟨k,hk,HA,aV,rfl⟩:=hrel
     rename World=>W3
     have Z:=K.trans aV.o;have aZ:=Kz Z;have y0:=ku _ aV.o;have y1:=ky _ aV.o;have zy:=blk y0
     by_cases J:k<s.length
     ·have mh:=Kz (fun h=>dD J HA.o h)
      have l7:=Kz (getElem_mem J);have mo:=dI bF s J;have mq:=Kz (show bF s[k]≤1048576 by have:=HL.o;omega);have mr:=Kz (Ol kz.o (getElem_mem J) I.o);clear mo;obtain⟨b,off,rfl,dz⟩:=l6 k J;obtain⟨r0,r1,r2,r3,H,r5,kQ,kS,rT,kT,kV,sw,kX,kZ,sG,sH,bg,mH,mZ,nz,nM,pR,pV,ae,p9,qo,nO,qD,qE,nP,nS,nZ,oh,oo,oq,ow⟩:=Lf jX J Z;have qG:=ae.op3;have k0:(0:Int)≤(k:Int):=by omega
      have k1:(k:Int)<(s.length:Int):=by omega
      have iw:=zI1 k (by omega);have lq:bF (r0,r1,r2,r3,H,r5)≤1048576:=by rw[bg.o];exact mq.o
      have ay:r0.size+r1.size+wtL ByteArray.size r2+wtL aU H+wtL aI r5≤1048576:=lq;have sN:H.length≤1048576:=by have:=bT aU H;omega
      have oz:=Kz (show r2.length≤1048576 by have:=bT ByteArray.size r2;omega);have oG:=Kz (show wtL aU H≤1048576 by omega);have l8:=Kz (show(zq (E,s) (r0,r1,r2,r3,H,r5)).length≤1048576 by rw[bg.o];exact mr.o);have oH:=Kz ae;obtain⟨LL,lG⟩:=nm (q8 (E,s) (r0,r1,r2,r3,H,r5));have dC:=Kz lG;clear Z mZ nz nM nO lq ay lG
      go_upto_region 6 with fail
      obtain⟨D,hD⟩:=nm (W3.alloc (.cells #[.string r0,.string r1,.slice kQ r2.length kS,.bool r3,.slice kT H.length kV,.slice kX r5.length kZ] 112));rw[←hD];have gD:Gr W3 D:=by rw[hD];exact gd
      have VD:=Kz (show az D W3.heap.size 112 (Array.toList #[.string r0,.string r1,.slice kQ r2.length kS,.bool r3,.slice kT H.length kV,.slice kX r5.length kZ]) by rw[hD];exact az.new rfl);have ax:=Kz gD;have u0:=gD.keep y0;have u1:=gD.keep y1;obtain⟨v0,v1,v2,v3,v4,v5⟩:=VD.o.c6;have zu:=blk u0;have zv:=blk v0;clear hD y0 y1 zy nP nS nZ oh oo oq ow
      go_wp2_with (first|(go_at_call 73;refine(MX (E,s) (r0,r1,r2,r3,H,r5) _ (Rd.gr X.o ((aZ.o.trans ax.o).trans gd)) (Rd.gr mH.o ((aZ.o.trans ax.o).trans gd)) I.o oz.o l8.o).mono ?_;rintro e w' ⟨vL,fL,rfl,hs,hf,x4,rfl⟩;rw[←dC.o] at hs;have HS:=Kz hs;obtain⟨aL,kL,rfl,-,-,-⟩:=hs.open;clear hs hf))
      go_loopw [32] (fun dG wr=>∃m:Nat,m≤H.length∧Ky (∀q∈H.take m,q.1∈LL→gX LL (d+1) q.2)∧Ky (Gr (D.ext x4) wr)∧dG=.int .i64 m) (fun dG _=>H.length - (intOf dG).toNat)
      case atStart=>exact⟨0,by omega,Kz (by simp),Kz gd,rfl⟩
      case round=>
       clear u0 u1 v0 v1 v2 v3 v4 v5 zu zv;obtain⟨m,hm,HB,O,rfl⟩:=hrel
       rename World=>W5
       have ma:=Kz ((show Gr D (D.ext x4) from gd).trans O.o);have dL:=Kz (ax.o.trans ma.o);have Z:=aZ.o.trans dL.o;have dU:=Kz Z
       by_cases ai:m<H.length
       ·have lV:=Kz (fun h=>dD ai HB.o h)
        have oK:=Kz (getElem_mem ai);have dW:=Kz (Nz oG.o ai);have J:=ai;have ae:=oH.o.gr dU.o;obtain⟨a4,c4,oL,o4,sO,gH⟩:=ae.open;injection oL with e1 e2 e3;subst e1 e3;obtain⟨bq,qN,rfl,qR⟩:=gH m J;obtain⟨T,U,bB,bD,bH,bK,bL,bN,bV,qV,qX,rf,sW,cK,tJ,eH,fe,fu,fw,fA,fK,gm,gF,mf,oN,oV,uh,ui,um,uq,uw,uL,uR,uW,uZ,ve⟩:=KY ae J (Gr.refl _);have l5:=Kz (bJ bB bD bH bK bL bN bV fu fw fA fK gm gF mf);have ah:=Kz (And.intro eH fe);rw[←cK.o] at dW;clear Z ae eH fe fu fw fA fK gm gF;have m0:(0:Int)≤(m:Int):=by omega
        have m1:(m:Int)<(H.length:Int):=by omega
        have vo:=zI1 m (by omega);obtain⟨C,hC⟩:=nm (pB ((T,U)∈LL));obtain⟨M,hM⟩:=nm (pB (gX LL (d+1) ((bB,bD,bH,bK,bL,bN,bV):aA d)));have au:=Kz hC;have cO:=Kz hM;clear hC hM
        cases C with
        |true=>
         cases M with
         |true=>
          go_wp2_with (first|(go_at_call 74;refine(vQ LL (T,U) _ (HS.o.gr (tg O)) (bO T U ah.o.1 ah.o.2)).mono ?_;rintro e w' ⟨rfl,x5,rfl⟩;rw[←au.o])|(go_at_call 75;refine(LC (d+1) _ _ _ _ ((bB,bD,bH,bK,bL,bN,bV):aA d) LL _ (Rd.gr l5.o gd) (HS.o.gr (tg O)) dW.o).mono ?_;rintro e w' ⟨rfl,x6,rfl⟩;rw[←cO.o]))
          exact⟨⟨m+1,by omega,Kz (lV.o (by rw[←cK.o];exact fun _=>dx.1 cO.o.symm)),Kz (tg O),by go_num⟩,by simp[intOf];omega⟩
         |false=>
          go_wp2_with (first|(go_at_call 74;refine(vQ LL (T,U) _ (HS.o.gr (tg O)) (bO T U ah.o.1 ah.o.2)).mono ?_;rintro e w' ⟨rfl,x5,rfl⟩;rw[←au.o])|(go_at_call 75;refine(LC (d+1) _ _ _ _ ((bB,bD,bH,bK,bL,bN,bV):aA d) LL _ (Rd.gr l5.o gd) (HS.o.gr (tg O)) dW.o).mono ?_;rintro e w' ⟨rfl,x6,rfl⟩;rw[←cO.o]))
          go_ret
          exact⟨aa (kE.o.trans (bz fun h=>by
           have h1:=h _ l7.o;rw[←bg.o] at h1;have h2:=h1 _ oK.o;rw[←cK.o,←dC.o] at h2;exact lM cO.o.symm (h2 (dx.1 au.o.symm)))).symm,dU.o.trans gd⟩
        |false=>
         go_wp2_with (first|(go_at_call 74;refine(vQ LL (T,U) _ (HS.o.gr (tg O)) (bO T U ah.o.1 ah.o.2)).mono ?_;rintro e w' ⟨rfl,x5,rfl⟩;rw[←au.o]))
         exact⟨⟨m+1,by omega,Kz (lV.o (by rw[←cK.o];exact fun h=>absurd h (lM au.o.symm))),Kz (tg O),by go_num⟩,by simp[intOf];omega⟩
       ·obtain rfl:m=H.length:=by omega
        rw[List.take_length] at HB;go_wp2_with fail;exact⟨⟨k+1,by omega,Kz (mh.o (by rw[←bg.o,←dC.o];exact HB.o)),Kz (aV.o.trans (tg dL)),by go_num⟩,by simp[intOf];omega⟩
     ·obtain rfl:k=s.length:=by omega
      rw[List.take_length] at HA;go_wp2_with fail;go_ret;exact⟨aa (kE.o.trans (bQ HA.o)).symm,aZ.o⟩
end Go.Proofs.YtdhighcpmcdmmaaGreat
