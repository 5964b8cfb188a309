/- Contracts and laws towards ReadsOf, part 47 of 54. No condition. -/
import Derived.Test.YtdhighcpmcdmmaaGreatFx43
import Derived.Deep.WholeRow
set_option maxHeartbeats 32000000
set_option maxRecDepth 10000
set_option linter.unusedVariables false
set_option linter.unusedSimpArgs false
namespace Go.Proofs.YtdhighcpmcdmmaaGreat
open Go.RowKit
open _root_.List (length_map)
variable{d:Nat}
variable{out nx:List Int}{g:af d}{r:Int}{i:Nat}
theorem Nq(hE:OB 123 d)(fp fl:List Nat)(cs:Array Value)(u:Value)(x:aA d)(L:List ag)(w:World)(hx:Rd.rd fp w cs.toList x)(hL:SlR fl w u L)(hc:cZ (d+1) x≤1048576):
  Qz 123 #[.agg cs,u] w (.bool (pB (gX L (d+1) x))):=by
 obtain⟨q0,q1,q2,q3,q4,q5,q6,dA,dC,ky,rfl,rfl,-,gF,gH,gM,gT,ik,iw,bB,gm,gB⟩:=KU hx;have gD:=bB.op3;have HX:=Kz hx;have ae:=Kz bB;clear hx;have K:=Kz hL;obtain⟨al,kl,rfl,-,-,-⟩:=hL.open;have HC:=Kz hc;obtain⟨R,hR⟩:=nm (pB (gX L (d+1) ((q0,q1,q2,q3,q4,q5,q6):aA d)));rw[←hR];have HR:=Kz hR;clear hL hc hR gm gB gD gF gH gM gT ik iw bB
 by_cases hu:UsP L (d+1) ((q0,q1,q2,q3,q4,q5,q6):aA d)
 ·have HU:=Kz (bQ hu)
  have jN:=Kz hu;have q:=Kz (fun(W:World) (g:Gr w W)=>(show Calls Tryz.prog 185 #[.agg #[.int .i64 q0,.int .i64 q1,.int .i64 q2,.int .i64 q3,.string q4,.string q5,.slice dA q6.length dC],.slice al L.length kl] W fun e w'=>e=.returned (.bool true)∧Gr W w' from by rw[←HU.o];exact o5 (d+1) _ _ _ _ ((q0,q1,q2,q3,q4,q5,q6):aA d) L W (Rd.gr HX.o g) (K.o.gr g) HC.o));clear hu
  by_cases h3:q0=3
  ·have jX:(q0==3)=true:=by simp[h3]
   have HT:=Kz (HR.o.trans (bQ (Ms h3)));clear h3;delta Qz;go_in;go_wp2_with fail;refine(q.o _ gd).mono ?_;rintro e w' ⟨rfl,H,rfl⟩;go_wp2_with fail;go_ret;exact⟨aa HT.o.symm,gd⟩
  ·have jX:(q0==3)=false:=by simpa using h3
   have hN:gX L (d+1) ((q0,q1,q2,q3,q4,q5,q6):aA d)↔Mg L d q0 q1 q6:=Mr (L:=L) (n:=d) (q0:=q0) (q1:=q1) (q2:=q2) (q3:=q3) (q4:=q4) (q5:=q5) (q6:=q6) jN.o h3;have dG:pB (gX L (d+1) ((q0,q1,q2,q3,q4,q5,q6):aA d))=pB (Mg L d q0 q1 q6):=iO hN;have O:=Kz (show R=pB (Mg L d q0 q1 q6) from HR.o.trans dG);clear hN dG;clear h3
   by_cases T:q6.length=2
   ·obtain⟨J,I,rfl⟩:=NM T
    have O:=Kz (O.o.trans (iO Og));clear T
    by_cases B:q0=4
    ·have U:(q0==4)=true:=by simp[B]
     have X:(q0 !=4)=false:=by simp[B]
     have Z:(q0==5)=false:=by simp[B]
     have H4:=Kz B;clear B;obtain⟨s,co,c0,c1,c2,c3,c4,c5,c6,cf,cq,-,cr,-,ah,bD,bH,bK,bL,bN,bV⟩:=cB (xs:=[J,I]) ae.o (k:=0) (by simp);subst cq;rw[Nat.zero_mul,Nat.add_zero] at ah bD bH bK bL bN bV;have cr:=Kz (show Rd.rd cf w [c0,c1,c2,c3,c4,c5,c6] J from cr);have cc:=Kz (show cZ d J≤1048576 from uo (by simp) HC.o);have zc:=blk ah;obtain⟨eb,eo,e0,e1,e2,e3,e4,e5,e6,ef,eq,-,er,-,Y,ai,aj,au,ax,ay,aL⟩:=cB (xs:=[J,I]) ae.o (k:=1) (by simp)
     obtain⟨rfl,rfl⟩:s=eb∧co=eo:=by
      injection eq with h;injection h with h1 T;exact⟨h1,T⟩
     clear eq;replace Y:w.cell? ⟨s,co+7,none⟩=some e0:=Y;replace ai:w.cell? ⟨s,co+7+1,none⟩=some e1:=ai;replace aj:w.cell? ⟨s,co+7+2,none⟩=some e2:=aj;replace au:w.cell? ⟨s,co+7+3,none⟩=some e3:=au;replace ax:w.cell? ⟨s,co+7+4,none⟩=some e4:=ax;replace ay:w.cell? ⟨s,co+7+5,none⟩=some e5:=ay;replace aL:w.cell? ⟨s,co+7+6,none⟩=some e6:=aL;have er:=Kz (show Rd.rd ef w [e0,e1,e2,e3,e4,e5,e6] I from er);have ec:=Kz (show cZ d I≤1048576 from uo (by simp) HC.o);have ze:=blk Y;obtain⟨va,dL⟩:=nm (pB (gX L d J));have cK:=Kz dL;clear dL;obtain⟨vb,aN⟩:=nm (pB (gX L d I));have aS:=Kz aN;clear aN;obtain⟨vu,aV⟩:=nm (pB (UsP L d I));have aZ:=Kz aV;clear aV;have bg:=Kz (fun(W:World) (g:Gr w W)=>(show Calls Tryz.prog 123 #[.agg #[c0,c1,c2,c3,c4,c5,c6],.slice al L.length kl] W fun e w'=>e=.returned (.bool va)∧Gr W w' from by rw[cK.o];exact hE _ _ _ _ J L W (Rd.gr cr.o g) (K.o.gr g) cc.o));have bq:=Kz (fun(W:World) (g:Gr w W)=>(show Calls Tryz.prog 123 #[.agg #[e0,e1,e2,e3,e4,e5,e6],.slice al L.length kl] W fun e w'=>e=.returned (.bool vb)∧Gr W w' from by rw[aS.o];exact hE _ _ _ _ I L W (Rd.gr er.o g) (K.o.gr g) ec.o));have j4:=Kz (fun(W:World) (g:Gr w W)=>(show Calls Tryz.prog 185 #[.agg #[e0,e1,e2,e3,e4,e5,e6],.slice al L.length kl] W fun e w'=>e=.returned (.bool vu)∧Gr W w' from by rw[aZ.o];exact o5 d _ _ _ _ I L W (Rd.gr er.o g) (K.o.gr g) ec.o));rcases Classical.em (q1=6∨q1=7) with hq|hq
     ·have D:=Kz (show R=(va&&vb) from O.o.trans (by rw[cK.o,aS.o,Bool.eq_iff_iff,Bool.and_eq_true,dx,dx,dx];exact⟨fun h=>h.2.elim (fun h=>h.2) (fun h=>by omega),fun h=>⟨H4.o,.inl ⟨hq,h⟩⟩⟩))
      rcases hq with rfl|rfl
      all_goals
       cases va
       ·skip
        delta Qz;go_in;go_wp2_with fail;refine(q.o _ gd).mono ?_;rintro e w' ⟨rfl,H,rfl⟩;go_wp2_with fail;refine(bg.o _ gd).mono ?_;rintro e w' ⟨rfl,yc,rfl⟩;go_wp2_with fail;go_ret;exact⟨aa (by rw[D.o];rfl),gd⟩
       ·skip
        delta Qz;go_in;go_wp2_with fail;refine(q.o _ gd).mono ?_;rintro e w' ⟨rfl,H,rfl⟩;go_wp2_with fail;refine(bg.o _ gd).mono ?_;rintro e w' ⟨rfl,yc,rfl⟩;go_wp2_with fail;refine(bq.o _ gd).mono ?_;rintro e w' ⟨rfl,ye,rfl⟩;go_wp2_with fail;go_ret;exact⟨aa (by rw[D.o];rfl),gd⟩
     ·rcases Classical.em (q1=8∨q1=12) with hr|hr
      ·have D:=Kz (show R=(va&&!vu) from O.o.trans (by rw[cK.o,aZ.o,Bool.eq_iff_iff,Bool.and_eq_true,Bool.not_eq_true',dx,dx,←Bool.not_eq_true,dx];exact⟨fun h=>h.2.elim (fun h=>absurd h.1 hq) (fun h=>h.2),fun h=>⟨H4.o,.inr ⟨hr,h⟩⟩⟩))
       clear hq;rcases hr with rfl|rfl
       all_goals
        cases va
        ·skip
         delta Qz;go_in;go_wp2_with fail;refine(q.o _ gd).mono ?_;rintro e w' ⟨rfl,H,rfl⟩;go_wp2_with fail;refine(bg.o _ gd).mono ?_;rintro e w' ⟨rfl,yc,rfl⟩;go_wp2_with fail;go_ret;exact⟨aa (by rw[D.o];rfl),gd⟩
        ·skip
         delta Qz;go_in;go_wp2_with fail;refine(q.o _ gd).mono ?_;rintro e w' ⟨rfl,H,rfl⟩;go_wp2_with fail;refine(bg.o _ gd).mono ?_;rintro e w' ⟨rfl,yc,rfl⟩;go_wp2_with fail;refine(j4.o _ gd).mono ?_;rintro e w' ⟨rfl,ye,rfl⟩;go_wp2_with fail;go_ret;exact⟨aa (by rw[D.o];rfl),gd⟩
      ·have D:=Kz (show R=false from O.o.trans (bz fun h=>h.2.elim (fun h=>hq h.1) (fun h=>hr h.1)))
       have i6:(q1==6)=false:=by simp;omega
       have i7:(q1==7)=false:=by simp;omega
       have i8:(q1==8)=false:=by simp;omega
       have i12:(q1==12)=false:=by simp;omega
       clear hq hr;delta Qz;go_in;go_wp2_with fail;refine(q.o _ gd).mono ?_;rintro e w' ⟨rfl,H,rfl⟩;go_wp2_with fail;go_ret;exact⟨aa D.o.symm,gd⟩
    ·have U:(q0==4)=false:=by simpa using B
     have X:(q0 !=4)=true:=by simpa using B
     have D:=Kz (show R=false from O.o.trans (bz fun h=>B h.1));clear B
     by_cases E:q0=5
     ·have Z:(q0==5)=true:=by simp[E]
      clear E;delta Qz;go_in;go_wp2_with fail;refine(q.o _ gd).mono ?_;rintro e w' ⟨rfl,H,rfl⟩;go_wp2_with fail;go_ret;exact⟨aa D.o.symm,gd⟩
     ·have Z:(q0==5)=false:=by simpa using E
      clear E;delta Qz;go_in;go_wp2_with fail;refine(q.o _ gd).mono ?_;rintro e w' ⟨rfl,H,rfl⟩;go_wp2_with fail;go_ret;exact⟨aa D.o.symm,gd⟩
   ·have j5:((q6.length:Int)==2)=false:=by simp;omega
    by_cases hl:q6.length=3
    ·obtain⟨J,I,xc,rfl⟩:=MI hl
     have O:=Kz (O.o.trans (iO N7));clear hl T j5
     by_cases E:q0=5
     ·have Z:(q0==5)=true:=by simp[E]
      have U:(q0==4)=false:=by simp[E]
      have X:(q0 !=4)=true:=by simp[E]
      have H5:=Kz E;clear E;obtain⟨s,co,c0,c1,c2,c3,c4,c5,c6,cf,cq,-,cr,-,ah,bD,bH,bK,bL,bN,bV⟩:=cB (xs:=[J,I,xc]) ae.o (k:=0) (by simp);subst cq;rw[Nat.zero_mul,Nat.add_zero] at ah bD bH bK bL bN bV;have cr:=Kz (show Rd.rd cf w [c0,c1,c2,c3,c4,c5,c6] J from cr);have cc:=Kz (show cZ d J≤1048576 from uo (by simp) HC.o);have zc:=blk ah;obtain⟨eb,eo,e0,e1,e2,e3,e4,e5,e6,ef,eq,-,er,-,Y,ai,aj,au,ax,ay,aL⟩:=cB (xs:=[J,I,xc]) ae.o (k:=1) (by simp)
      obtain⟨rfl,rfl⟩:s=eb∧co=eo:=by
       injection eq with h;injection h with h1 T;exact⟨h1,T⟩
      clear eq;replace Y:w.cell? ⟨s,co+7,none⟩=some e0:=Y;replace ai:w.cell? ⟨s,co+7+1,none⟩=some e1:=ai;replace aj:w.cell? ⟨s,co+7+2,none⟩=some e2:=aj;replace au:w.cell? ⟨s,co+7+3,none⟩=some e3:=au;replace ax:w.cell? ⟨s,co+7+4,none⟩=some e4:=ax;replace ay:w.cell? ⟨s,co+7+5,none⟩=some e5:=ay;replace aL:w.cell? ⟨s,co+7+6,none⟩=some e6:=aL;have er:=Kz (show Rd.rd ef w [e0,e1,e2,e3,e4,e5,e6] I from er);have ec:=Kz (show cZ d I≤1048576 from uo (by simp) HC.o);have ze:=blk Y;obtain⟨mb,mo,m0,m1,m2,m3,m4,m5,m6,mf,mq,-,mr,-,cO,dU,dW,eH,fe,fu,fw⟩:=cB (xs:=[J,I,xc]) ae.o (k:=2) (by simp)
      obtain⟨rfl,rfl⟩:s=mb∧co=mo:=by
       injection mq with h;injection h with h1 T;exact⟨h1,T⟩
      clear mq;replace cO:w.cell? ⟨s,co+14,none⟩=some m0:=cO;replace dU:w.cell? ⟨s,co+14+1,none⟩=some m1:=dU;replace dW:w.cell? ⟨s,co+14+2,none⟩=some m2:=dW;replace eH:w.cell? ⟨s,co+14+3,none⟩=some m3:=eH;replace fe:w.cell? ⟨s,co+14+4,none⟩=some m4:=fe;replace fu:w.cell? ⟨s,co+14+5,none⟩=some m5:=fu;replace fw:w.cell? ⟨s,co+14+6,none⟩=some m6:=fw;have mr:=Kz (show Rd.rd mf w [m0,m1,m2,m3,m4,m5,m6] xc from mr);have mc:=Kz (show cZ d xc≤1048576 from uo (by simp) HC.o);have zm:=blk cO;obtain⟨vu,aV⟩:=nm (pB (UsP L d J));have aZ:=Kz aV;clear aV;obtain⟨vb,aN⟩:=nm (pB (gX L d I));have aS:=Kz aN;clear aN;obtain⟨vc,fA⟩:=nm (pB (gX L d xc));have fK:=Kz fA;clear fA;have dz:=Kz (fun(W:World) (g:Gr w W)=>(show Calls Tryz.prog 185 #[.agg #[c0,c1,c2,c3,c4,c5,c6],.slice al L.length kl] W fun e w'=>e=.returned (.bool vu)∧Gr W w' from by rw[aZ.o];exact o5 d _ _ _ _ J L W (Rd.gr cr.o g) (K.o.gr g) cc.o));have bq:=Kz (fun(W:World) (g:Gr w W)=>(show Calls Tryz.prog 123 #[.agg #[e0,e1,e2,e3,e4,e5,e6],.slice al L.length kl] W fun e w'=>e=.returned (.bool vb)∧Gr W w' from by rw[aS.o];exact hE _ _ _ _ I L W (Rd.gr er.o g) (K.o.gr g) ec.o));have ku:=Kz (fun(W:World) (g:Gr w W)=>(show Calls Tryz.prog 123 #[.agg #[m0,m1,m2,m3,m4,m5,m6],.slice al L.length kl] W fun e w'=>e=.returned (.bool vc)∧Gr W w' from by rw[fK.o];exact hE _ _ _ _ xc L W (Rd.gr mr.o g) (K.o.gr g) mc.o));have D:=Kz (show R=(!vu&&vb&&vc) from O.o.trans (by rw[aZ.o,aS.o,fK.o,Bool.eq_iff_iff,Bool.and_eq_true,Bool.and_eq_true,Bool.not_eq_true',dx,dx,dx,←Bool.not_eq_true,dx];exact⟨fun h=>⟨⟨h.2.1,h.2.2.1⟩,h.2.2.2⟩,fun h=>⟨H5.o,h.1.1,h.1.2,h.2⟩⟩));rcases(show vu=true∨(vu=false∧vb=false)∨(vu=false∧vb=true) by cases vu<;>cases vb<;>simp) with rfl|⟨rfl,rfl⟩|⟨rfl,rfl⟩
      ·skip
       delta Qz;go_in;go_wp2_with fail;refine(q.o _ gd).mono ?_;rintro e w' ⟨rfl,H,rfl⟩;go_wp2_with fail;refine(dz.o _ gd).mono ?_;rintro e w' ⟨rfl,yc,rfl⟩;go_wp2_with fail;go_ret;exact⟨aa (by rw[D.o];rfl),gd⟩
      ·skip
       delta Qz;go_in;go_wp2_with fail;refine(q.o _ gd).mono ?_;rintro e w' ⟨rfl,H,rfl⟩;go_wp2_with fail;refine(dz.o _ gd).mono ?_;rintro e w' ⟨rfl,yc,rfl⟩;go_wp2_with fail;refine(bq.o _ gd).mono ?_;rintro e w' ⟨rfl,ye,rfl⟩;go_wp2_with fail;go_ret;exact⟨aa (by rw[D.o];rfl),gd⟩
      ·skip
       delta Qz;go_in;go_wp2_with fail;refine(q.o _ gd).mono ?_;rintro e w' ⟨rfl,H,rfl⟩;go_wp2_with fail;refine(dz.o _ gd).mono ?_;rintro e w' ⟨rfl,yc,rfl⟩;go_wp2_with fail;refine(bq.o _ gd).mono ?_;rintro e w' ⟨rfl,ye,rfl⟩;go_wp2_with fail;refine(ku.o _ gd).mono ?_;rintro e w' ⟨rfl,ym,rfl⟩;go_wp2_with fail;go_ret;exact⟨aa (by rw[D.o];rfl),gd⟩
     ·have Z:(q0==5)=false:=by simpa using E
      have D:=Kz (show R=false from O.o.trans (bz fun h=>E h.1));clear E
      by_cases B:q0=4
      ·have U:(q0==4)=true:=by simp[B]
       have X:(q0 !=4)=false:=by simp[B]
       clear B;delta Qz;go_in;go_wp2_with fail;refine(q.o _ gd).mono ?_;rintro e w' ⟨rfl,H,rfl⟩;go_wp2_with fail;go_ret;exact⟨aa D.o.symm,gd⟩
      ·have U:(q0==4)=false:=by simpa using B
       have X:(q0 !=4)=true:=by simpa using B
       clear B;delta Qz;go_in;go_wp2_with fail;refine(q.o _ gd).mono ?_;rintro e w' ⟨rfl,H,rfl⟩;go_wp2_with fail;go_ret;exact⟨aa D.o.symm,gd⟩
    ·have kz:((q6.length:Int)==3)=false:=by simp;omega
     have D:=Kz (show R=false from O.o.trans (bz (Ns T hl)));clear T hl;rcases Classical.em (q0=5) with E|E
     ·have Z:(q0==5)=true:=by simp[E]
      have U:(q0==4)=false:=by simp[E]
      have X:(q0 !=4)=true:=by simp[E]
      clear E;delta Qz;go_in;go_wp2_with fail;refine(q.o _ gd).mono ?_;rintro e w' ⟨rfl,H,rfl⟩;go_wp2_with fail;go_ret;exact⟨aa D.o.symm,gd⟩
     ·have Z:(q0==5)=false:=by simpa using E
      clear E;rcases Classical.em (q0=4) with B|B
      ·have U:(q0==4)=true:=by simp[B]
       have X:(q0 !=4)=false:=by simp[B]
       clear B;delta Qz;go_in;go_wp2_with fail;refine(q.o _ gd).mono ?_;rintro e w' ⟨rfl,H,rfl⟩;go_wp2_with fail;go_ret;exact⟨aa D.o.symm,gd⟩
      ·have U:(q0==4)=false:=by simpa using B
       have X:(q0 !=4)=true:=by simpa using B
       clear B;delta Qz;go_in;go_wp2_with fail;refine(q.o _ gd).mono ?_;rintro e w' ⟨rfl,H,rfl⟩;go_wp2_with fail;go_ret;exact⟨aa D.o.symm,gd⟩
 ·have HU:=Kz (bz hu)
  have q:=Kz (fun(W:World) (g:Gr w W)=>(show Calls Tryz.prog 185 #[.agg #[.int .i64 q0,.int .i64 q1,.int .i64 q2,.int .i64 q3,.string q4,.string q5,.slice dA q6.length dC],.slice al L.length kl] W fun e w'=>e=.returned (.bool false)∧Gr W w' from by rw[←HU.o];exact o5 (d+1) _ _ _ _ ((q0,q1,q2,q3,q4,q5,q6):aA d) L W (Rd.gr HX.o g) (K.o.gr g) HC.o));have HT:=Kz (HR.o.trans (bQ (Nt hu)));clear hu;delta Qz;go_in;go_wp2_with fail;refine(q.o _ gd).mono ?_;rintro e w' ⟨rfl,H,rfl⟩;go_wp2_with fail;go_ret;exact⟨aa HT.o.symm,gd⟩
theorem LB:(d:Nat)→OB 123 d
 |0=>by intro fp fl cs u x;exact PEmpty.elim x
 |d+1=>fun fp fl cs u x L w h q hc=>Nq (LB d) fp fl cs u x L w h q hc
theorem CO(o a b:Int)(w:World):Qz 226 #[.int .i64 o,.int .i64 a,.int .i64 b] w (.int .i64 (opV o a b)):=by
 obtain⟨x,h⟩:=nm (mY a (opT o).1);obtain⟨y,q⟩:=nm (mY b (opT o).2.1);have s:=Kz h;have B:=Kz q;clear h q;delta Qz;go_in;go_wp2_with fail;refine(uO _ _).mono ?_;rintro e w' ⟨rfl,D,rfl⟩;go_wp2_with fail;refine(lU _ _ _).mono ?_;rintro e w' ⟨rfl,E,rfl⟩;rw[←s.o];go_wp2_with fail;refine(lU _ _ _).mono ?_;rintro e w' ⟨rfl,H,rfl⟩;rw[←B.o]
 go_wp2_with (first|(go_at_call 265;refine(ug _ _).mono ?_;rintro e w' ⟨rfl,rfl⟩)|(go_at_call 235;refine(mV _ _ _).mono ?_;rintro e w' ⟨rfl,rfl⟩)|(go_at_call 239;refine(tO _ _ _).mono ?_;rintro e w' ⟨rfl,rfl⟩)|(go_at_call 266;refine(qP _ _).mono ?_;rintro e w' ⟨rfl,rfl⟩)|(go_at_call 101;refine(di _ _ _ _).mono ?_;rintro e w' ⟨rfl,rfl⟩))
 go_ways
 all_goals
  go_ret;refine⟨aC ?_,gd⟩;rw[show opV o a b=opW o x y by unfold opV;rw[s.o,B.o]];unfold opW;simp only[beq_iff_eq,beq_eq_false_iff_ne] at*
  first|(simp_all;done)|(simp_all;omega)|(have hm:max y 0=y:=(by omega);simp only[hm] at*;simp_all;done)
def hOf(ss:List bC)(h:List Int)(n:ByteArray):Int:=if atS ss n<0 then 0 else h.getD (atS ss n).toNat 0
theorem GR(ss:List bC)(q:List Int)(n:ByteArray):vK ss q n=decide (0<hOf ss q n):=by
 unfold vK hOf
 by_cases h:atS ss n<0
 ·rw[if_pos h,decide_eq_false (by omega:¬0≤atS ss n)];rfl
 ·rw[if_neg h,decide_eq_true (by omega:0≤atS ss n)];rfl
theorem Dn{fg:List Nat}{cg:Array Value}(g:af d)(out:List Int)(name:ByteArray)(Z c b:Nat)(w:World)(hg:Rd.rd fg w cg.toList g)(vg:az w Z 36 cg.toList)(box:w.cell? ⟨c,0,none⟩=some (.slice (some ⟨b,0,none⟩) g.1.length g.1.length))(row:jZ w b 3 out)(len:out.length=g.1.length):
  Qz 250 #[.string name,.pointer (some ⟨Z,0,none⟩),.pointer (some ⟨c,0,none⟩)] w (.int .i64 (hOf g.1 out name)):=by
 obtain⟨q,g1,ax,ay,bH,bK,bL,bN,rfl,rfl,-,O,aS,aV,bV,aZ,bq⟩:=yt hg;have ae:=O.op3;clear hg;have T:w.cell? ⟨Z,0,none⟩=some (.slice ax q.length ay):=vg.c 0;have aL:=blk T;have ah:=Kz (show out.length=q.length from len);have ai:=Kz row;have aj:=Kz (show w.cell? ⟨c,0,none⟩=some (.slice (some ⟨b,0,none⟩) q.length q.length) from box);obtain⟨U,D⟩:=nm (hOf q out name);have H:=Kz D
 show Calls _ _ _ _ fun e w'=>e=.returned (.int .i64 (hOf q out name))∧Gr w w'
 rw[←D];clear vg box row len D;(try delta Qz);go_in;go_wp2_with fail;clear T aL
 go_loopw [10] (fun I wr=>∃k:Nat,k≤q.length∧Ky (∀j (h:j<q.length),j<k→decide (q[j].1=name)=false)∧Ky (Gr w wr)∧I=.int .i64 k) (fun I _=>q.length - (intOf I).toNat)
 case atStart=>exact⟨0,by omega,Kz (fun j h K=>by omega),Kz gd,rfl⟩
 case round=>
  obtain⟨k,hk,HT,B,rfl⟩:=hrel
  rename World=>W1
  by_cases J:k<q.length
  ·have aN:=B.o
   obtain⟨b,off,rfl,cK⟩:=ae k J;obtain⟨q0,q1,cO,dz,dA,dC,X,dG,dL,dU,bB,bD,dW,eH,fe⟩:=K9 O J aN;have k0:(0:Int)≤(k:Int):=by omega
   have k1:(k:Int)<(q.length:Int):=by omega
   have iw:=zI1 k (by omega);have Y:k<out.length:=by have:=ah.o;omega
   have zc:=B.o.keep aj.o;have zo:=B.o.keep (ai.o.cell Y);have fu:=blk zc;have fw:=blk zo
   by_cases s:q0=name
   ·have HE:=Kz (show U=out[k] by
     have h1:atS q name=k:=iH J (decide_eq_true (by rw[←X.o];exact s)) HT.o;rw[H.o];unfold hOf;rw[h1,if_neg (by omega)];simp[List.getD_eq_getElem?_getD,List.getElem?_eq_getElem Y])
    subst s;go_wp2_with fail;go_ret;exact⟨aC HE.o.symm,B.o.trans gd⟩
   ·have E:=Kz s
    have e:(q0.toList==name.toList)=false:=by simpa using fun e=>s (str_inj e)
    clear s;go_wp2_with fail;refine⟨⟨k+1,by omega,Kz fun j K fA=>?_,Kz (tg B),by go_num⟩,by simp[intOf];omega⟩
    by_cases au:j<k
    ·exact HT.o j K au
    ·obtain rfl:j=k:=by omega
     rw[←X.o];exact decide_eq_false E.o
  ·have HE:=Kz (show U=0 by
    have h1:atS q name= -1:=gu (fun j K=>HT.o j K (by omega));rw[H.o];unfold hOf;rw[h1];rfl)
   go_wp2_with fail;go_ret;exact⟨aC HE.o.symm,B.o.trans gd⟩
structure HtS(w0:World)(cg:List Value)(bg c b n:Nat)(W:World)(out:List Int):Prop where
 gr:Gr w0 W
 vg:az W bg 36 cg
 box:az W c 29 [.slice (some ⟨b,0,none⟩) n n]
 row:jZ W b 3 out
 len:out.length=n
 ge:w0.heap.size≤c∧w0.heap.size≤b∧c≠b∧c≠bg∧b≠bg
theorem HtS.grow{w0 W W':World}{cg:List Value}{s c b n:Nat}(h:HtS w0 cg s c b n W out)(q:Gr W W'):HtS w0 cg s c b n W' out:=
 ⟨h.gr.trans q,h.vg.gr q,h.box.gr q,az.gr h.row q,h.len,h.ge⟩
theorem HtS.set{w0 W:World}{cg:List Value}{B c b n:Nat}(h:HtS w0 cg B c b n W out){q:Nat}(s:w0.heap.size≤q∧q≠B∧q≠c∧q≠b)(o:Nat)(v:Value):HtS w0 cg B c b n (W.setCell ⟨q,o,none⟩ v) out:=
 ⟨Gr.setCell h.gr s.1 v,h.vg.ne s.2.1.symm,h.box.ne s.2.2.1.symm,az.ne h.row s.2.2.2.symm,h.len,h.ge⟩
def lu(g:af d)(out:List Int)(n:ByteArray)(r:Int)(i:Nat)(nx:List Int)(m:Nat):List Int:=if (g.2.take m).any (nU g.1 out n)=true then nx.set i r else nx
theorem Er{n:ByteArray}{m:Nat}(h:m<g.2.length):lu g out n r i nx (m+1)=if nU g.1 out n g.2[m]=true then(lu g out n r i nx m).set i r else lu g out n r i nx m:=by
 unfold lu;rw[List.take_succ_eq_append_getElem h,List.any_append];simp only[List.any_cons,List.any_nil,Bool.or_false,Bool.or_eq_true]
 by_cases q:(g.2.take m).any (nU g.1 out n)=true
 ·rw[if_pos (.inl q),if_pos q]
  split<;>simp
 ·rw[if_neg q]
  by_cases s:nU g.1 out n g.2[m]=true
  ·rw[if_pos (.inr s),if_pos s]
  ·rw[if_neg (fun h=>h.elim q s),if_neg s]
theorem FR(g:af d)(out:List Int)(n:ByteArray)(r:Int)(i:Nat)(nx:List Int)(m:Nat):(lu g out n r i nx m).length=nx.length:=by
 unfold lu
 split<;>simp
theorem Fy(q:i<g.1.length)(s:out.getD i 0=0):lu g out g.1[i].1 r i nx g.2.length=ry g out r nx i:=by
 unfold lu ry;rw[List.take_length]
 show(if mJ g out g.1[i].1=true then nx.set i r else nx)=_
 have B:g.1.getD i (⟨#[]⟩,[])=g.1[i]:=by simp[List.getD_eq_getElem?_getD,List.getElem?_eq_getElem q]
 rw[B]
 by_cases h:mJ g out g.1[i].1=true
 ·rw[if_pos h,if_pos ⟨s,h⟩]
 ·rw[if_neg h,if_neg (fun k=>h k.2)]
theorem Eh(q:out.getD i 0≠0):ry g out r nx i=nx:=if_neg fun h=>q h.1
def Kr(g:af d)(w:World)(e:Ending)(w':World):Prop:=∃v fq,e=.returned v∧SlR fq w' v (hts g g.1.length)∧Gr w w'
theorem uG:JM d:=by
 intro fg cg g w hg hl hn aj
 obtain⟨i0,hi,j5,dz,ku⟩:=info_parts Tryz.kJ;have K:=fun(W:World)=>run_make (P:=Tryz.prog) W 29 3 i0 (.int .i64 0) Tryz.underlying29 hi j5 .i64 .i64 g.1.length g.1.length (by omega) (by omega) (by rw[ku];omega) (by omega)
 have nO:=Kz (show(Tryz.prog.info? 3).map (·.size)=some 1 from by rw[hi];simp[dz]);rw[dz] at K;clear hi j5 dz ku;simp only[Int.toNat_natCast,Nat.mul_one] at K;have aV:=Kz (fun W:World=>jZ.made W g.1.length 3);have ky:(Value.int .i64 0).cells=#[.int .i64 0]:=rfl;rw[ky] at K;generalize madeCells #[.int .i64 0] g.1.length=C1 at K aV;clear ky;have HG:=Kz hg;obtain⟨q,D,O,T,uW,Z,ae,uZ,rfl,rfl,-,kz,sw,sG,kE,sH,sN⟩:=yt hg;have mr:=kz.op3;have mH:=kE.op3;clear hg;have ve:0<q.length:=hn;have sO:q.length≤1000:=aj
 change Ky (∀W:World,jZ (W.alloc (.cells C1 3)) W.heap.size 3 (List.replicate q.length 0)) at aV
 change ∀W:World,_=Result.ok (Value.slice _ q.length q.length) _ at K
 clear hn aj hl;have nP:=Kz (show Rd.rd fg w (Array.toList #[.slice O q.length T,.slice Z D.length ae]) (q,D) from HG.o);obtain⟨GC,au⟩:∃GC:List Value,GC=[.slice O q.length T,.slice Z D.length ae]:=⟨_,rfl⟩;have kL:=Kz (fun(W:World) (h:az W w.heap.size 36 GC)=>show W.cell? ⟨w.heap.size,0,none⟩=some (.slice O q.length T) by rw[au] at h;exact h.c 0);have nS:=Kz (fun(W:World) (h:az W w.heap.size 36 GC)=>show W.cell? ⟨w.heap.size,1,none⟩=some (.slice Z D.length ae) by rw[au] at h;exact h.c 1);have nZ:=Kz (fun(W:World) (h:az W w.heap.size 36 GC)=>show az W w.heap.size 36 (Array.toList #[.slice O q.length T,.slice Z D.length ae]) by rw[au] at h;exact h)
 show Calls _ _ _ _ (Kr (q,D) w)
 go_in;go_wp2_with fail;obtain⟨B,hB⟩:=nm (((w.alloc (.cells #[.slice O q.length T,.slice Z D.length ae] 36)).alloc (.cells C1 3)).alloc (.cells #[.slice (some ⟨w.heap.size+1,0,none⟩) q.length q.length] 29));rw[←hB]
 have kQ:HtS w GC w.heap.size (w.heap.size+1+1) (w.heap.size+1) q.length B (hts (q,D) 0):=by
  rw[hB,au];refine⟨gd,(az.new (A:=w) rfl).gr gd,az.new (by simp),?_,by simp[hts],by omega,by omega,by omega,by omega,by omega⟩;have h:=aV.o (w.alloc (.cells #[.slice O q.length T,.slice Z D.length ae] 36));rw[show(w.alloc (.cells #[.slice O q.length T,.slice Z D.length ae] 36)).heap.size=w.heap.size+1 by simp] at h;exact az.gr h gd
 have oh:=Kz kQ;have oo:=Kz K;clear hB kQ K au
 go_loopw [5] (fun s5 wr=>∃(k bo:Nat),k≤q.length∧Ky (HtS w GC w.heap.size (w.heap.size+1+1) bo q.length wr (hts (q,D) k))∧s5=.int .i64 ((k:Int)+1)) (fun s5 _=>q.length+1 - (intOf s5).toNat)
 case atStart=>exact⟨0,w.heap.size+1,by omega,oh,rfl⟩
 case round=>
  obtain⟨k,bo,hk,E,rfl⟩:=hrel
  rename World=>I
  have y0:I.cell? ⟨w.heap.size,0,none⟩=some (.slice O q.length T):=kL.o _ E.o.vg;have yc:=E.o.box.box;have dA:=blk y0;have dC:=blk yc;have kS:=Ay (q,D) k hk;have dG:∀y∈hts (q,D) k,0≤y∧y≤(q.length:Int):=kS.2;obtain⟨s,aL⟩:=nm (hts (q,D) k);rw[←aL] at E dG;have dL:=Kz aL;have dU:=Kz dG;have sW:=E.o.ge;have mZ:=E.o.row.lt;have U:=Kz E.o.len;clear kS aL dG
  by_cases X:k<q.length
  ·have oq:(k:Int)+1≤(q.length:Int):=by omega
   have vo:IntKind.i64.wrap ((k:Int)+1+1)=(k:Int)+1+1:=IntWalk.i64_in _ (by omega);have K:=oo.o
   have aN:C1.size=q.length:=by
    have h:=aV.o I;have h2:(I.alloc (.cells C1 3)).heap[I.heap.size]?=_:=h;rw[heap_alloc_new] at h2;injection h2 with h2;injection h2 with h2;rw[h2];simp
   have ow:(Builtin.copy_ #[29,29] 3 #[.slice (some ⟨I.heap.size,0,none⟩) q.length q.length,.slice (some ⟨bo,0,none⟩) q.length q.length]).run Tryz.prog (I.alloc (.cells C1 3))=.ok (goInt q.length) (I.alloc (.cells (s.map (Value.int .i64)).toArray 3)):=by
    have h:=run_copy_row (P:=Tryz.prog) (I.alloc (.cells C1 3)) 29 29 3 3 I.heap.size 0 q.length q.length ⟨bo,0,none⟩ q.length q.length C1 3 (s.map (Value.int .i64)) Tryz.underlying29 nO.o (heap_alloc_new I _) (by rw[length_map,U.o];exact(Nat.min_self _).symm) (fun j v hj=>by
     obtain⟨oz,rfl⟩:=List.getElem?_eq_some_iff.1 hj;have h3:=(az.gr E.o.row (gd:Gr I (I.alloc (.cells C1 3)))).cell oz;have nz:(⟨bo,0,none⟩:Addr).add j=⟨bo,j,none⟩:=by unfold Addr.add;split<;>simp_all
     rw[nz];simpa using h3) (by rw[length_map,U.o,aN];omega) (fun v hv=>by
     obtain⟨y,-,rfl⟩:=List.mem_map.1 hv;rfl)
    rw[World.setRow_alloc_new] at h
    have e:(C1.toList.take 0++s.map (Value.int .i64)++C1.toList.drop (0+(s.map (Value.int .i64)).length)).toArray=(s.map (Value.int .i64)).toArray:=by
     rw[length_map,U.o,Nat.zero_add,List.drop_eq_nil_of_le (by rw[Array.length_toList,aN];exact Nat.le_refl _)];simp
    rw[e,length_map,U.o] at h;exact h
   go_wp2_with fail;clear ow K;obtain⟨W2,aZ⟩:=nm (I.alloc (.cells (s.map (Value.int .i64)).toArray 3));rw[←aZ];have kT:=E.o.grow (show Gr I W2 by rw[aZ];exact gd);have ah:jZ W2 I.heap.size 3 s:=by rw[aZ];exact az.new rfl
   obtain⟨b2,dW⟩:=nm (I.heap.size)
   have aj:w.heap.size≤b2∧b2≠w.heap.size∧b2≠w.heap.size+1+1∧b2≠bo:=by
    have h1:=E.o.gr.size;have h2:=E.o.box.lt;have h3:=E.o.vg.lt;rw[dW];omega
   rw[←dW] at ah ⊢;have kV:=Kz kT;have bg:=Kz ah;have kX:=Kz aj;clear aZ kT ah dW aj y0 yc dA dC E mZ aN;clear I
   go_loopw [35] (fun eH wr=>∃i:Nat,i≤q.length∧Ky (HtS w GC w.heap.size (w.heap.size+1+1) bo q.length wr s)∧Ky (jZ wr b2 3 (mP (q,D) s ((k:Int)+1) i))∧eH=.int .i64 i) (fun eH _=>q.length - (intOf eH).toNat)
   case atStart=>exact⟨0,by omega,kV,bg,rfl⟩
   case round=>
    clear kV bg;obtain⟨i,hi,H,ax,rfl⟩:=hrel
    rename World=>W3
    have y0:W3.cell? ⟨w.heap.size,0,none⟩=some (.slice O q.length T):=kL.o _ H.o.vg;have y1:W3.cell? ⟨w.heap.size,1,none⟩=some (.slice Z D.length ae):=nS.o _ H.o.vg;have yc:=H.o.box.box;have dA:=blk y0;have dC:=blk yc;have fe:=Kz (show(mP (q,D) s ((k:Int)+1) i).length=q.length by rw[(Bf (g:=(q,D)) (out:=s) (r:=(k:Int)+1) (M:=(q.length:Int)) (by omega) dU.o i).1,U.o])
    by_cases X:i<q.length
    ·have ay:=H.o.gr
     have bq:i<s.length:=by rw[U.o];exact X
     have zo:=H.o.row.cell bq;have oG:=blk zo;have vv:(0:Int)≤(i:Int):=by omega
     have vB:(i:Int)<(q.length:Int):=by omega
     have vC:=zI1 i (by omega);obtain⟨b,off,rfl,oH⟩:=mr i X;obtain⟨q0,q1,bB,bD,vD,vE,oK,vF,vI,vL,tJ,uh,oN,oV,oW⟩:=K9 kz X ay;have o9:=dU.o _ (List.getElem_mem bq);obtain⟨oi,fu⟩:=nm (s[i]);rw[←fu] at zo o9;have kZ:=Kz (show s.getD i 0=oi by rw[fu];simp[List.getD_eq_getElem?_getD,List.getElem?_eq_getElem bq]);have fw:=Kz (tL (q,D) s ((k:Int)+1) i);clear fu bq
     by_cases h0:0<oi
     ·have bH:=Kz (fw.o.trans (Eh (by rw[kZ.o];omega)))
      go_wp2_with fail;exact⟨⟨i+1,by omega,Kz (H.o.grow gd),Kz (by rw[bH.o];exact az.gr ax.o gd),by go_num⟩,by simp[intOf];omega⟩
     ·have bH:=Kz (show lu (q,D) s q0 ((k:Int)+1) i (mP (q,D) s ((k:Int)+1) i) D.length=mP (q,D) s ((k:Int)+1) (i+1) from by
       rw[fw.o,←Fy (g:=(q,D)) X (by rw[kZ.o];omega)]
       show lu (q,D) s q0 _ i _ D.length=lu (q,D) s q[i].1 _ i _ D.length
       rw[←oK.o])
      go_wp2_with fail;obtain⟨W4,bK⟩:=nm (W3.alloc (.cells #[.string q0,.slice bB q1.length bD] 104));rw[←bK];have g4:Gr W3 W4:=by rw[bK];exact gd
      have fA:az W4 W3.heap.size 104 [.string q0,.slice bB q1.length bD]:=by rw[bK];exact az.new rfl
      have aS:W3.heap.size≠b2:=by have:=ax.o.lt;omega
      obtain⟨bs,lq⟩:=nm (W3.heap.size);rw[←lq] at fA aS ⊢;have lG:=Kz (H.o.grow g4);have fK:=Kz (show jZ W4 b2 3 (lu (q,D) s q0 ((k:Int)+1) i (mP (q,D) s ((k:Int)+1) i) 0) from az.gr ax.o g4);have lV:=Kz fA;have pG:=Kz aS;obtain⟨NX,l5⟩:=nm (mP (q,D) s ((k:Int)+1) i);rw[←l5] at fK bH fe;clear bK g4 fA aS lq l5 H ax fw y0 y1 yc dA dC zo oG oN oV oW ay;clear W3
      go_loopw [48] (fun gm wr=>∃m:Nat,m≤D.length∧Ky (HtS w GC w.heap.size (w.heap.size+1+1) bo q.length wr s)∧Ky (jZ wr b2 3 (lu (q,D) s q0 ((k:Int)+1) i NX m))∧Ky (az wr bs 104 [.string q0,.slice bB q1.length bD])∧gm=.int .i64 m) (fun gm _=>D.length - (intOf gm).toNat)
      case atStart=>exact⟨0,by omega,lG,fK,lV,rfl⟩
      case round=>
       clear lG fK lV;obtain⟨m,hm,bN,gB,gD,rfl⟩:=hrel
       rename World=>W5
       have pM:=Kz (show(lu (q,D) s q0 ((k:Int)+1) i NX m).length=q.length by rw[FR,fe.o])
       by_cases X:m<D.length
       ·have ay:=bN.o.gr
        have l6:=Kz (Er (g:=(q,D)) (out:=s) (n:=q0) (r:=(k:Int)+1) (i:=i) (nx:=NX) (m:=m) X);obtain⟨b,off,rfl,oH⟩:=mH m X;obtain⟨r0,r1,Y,r3,r4,r5,pR,pV,vN,p9,qo,vO,qD,qE,vR,vU,qG,vV,vW,vX,ah,ui,um,wm,uq,uw,wz,uL,uR,qN,qR,qV,qX,rf,rq,rD⟩:=Lf kE X ay;have nM:=ah.op3;have m0:(0:Int)≤(m:Int):=by omega
        have m1:(m:Int)<(D.length:Int):=by omega
        have wF:=zI1 m (by omega);have l7:W5.cell? ⟨bs,0,none⟩=some (.string q0):=gD.o.c 0;have rE:=blk l7;have bg:=Kz ah;have l8:Ky (nU q s q0 D[m]=(decide (r1=q0)&&Y.all (vK q s))):=Kz (by rw[←qG.o];rfl);go_wp2_with fail
        have gF:(r1.toList==q0.toList)=decide (r1=q0):=by
         by_cases h:r1=q0
         ·subst h;simp
         ·rw[decide_eq_false h];simpa using fun e=>h (str_inj e)
        rw[gF];obtain⟨W6,gH⟩:=nm (W5.alloc (.cells #[.string r0,.string r1,.slice pR Y.length pV,.bool r3,.slice p9 r4.length qo,.slice qD r5.length qE] 112));rw[←gH];have g6:Gr W5 W6:=by rw[gH];exact gd
        have ma:=Kz (bN.o.grow g6);have mf:=Kz (show jZ W6 b2 3 (lu (q,D) s q0 ((k:Int)+1) i NX m) from az.gr gB.o g6);have mh:=Kz (gD.o.gr g6);obtain⟨gM,gT⟩:=nm (decide (r1=q0));rw[←gT] at l8 ⊢;clear gH g6 bN gB gD ay qN qR qV qX rf rq rD l7 rE gF gT
        go_loopw [60,11] (fun ik rR wr=>∃(p:Nat) (gb:Bool),p≤Y.length∧Ky (HtS w GC w.heap.size (w.heap.size+1+1) bo q.length wr s)∧Ky (jZ wr b2 3 (lu (q,D) s q0 ((k:Int)+1) i NX m))∧Ky (az wr bs 104 [.string q0,.slice bB q1.length bD])∧Ky (gb=(gM&&(Y.take p).all (vK q s)))∧ik=.int .i64 p∧rR=.bool gb) (fun ik _ _=>Y.length - (intOf ik).toNat)
        case atStart=>exact⟨0,gM,by omega,ma,mf,mh,Kz (by simp),rfl,rfl⟩
        case round=>
         clear ma mf mh;obtain⟨p,gb,hp,J,ai,bV,cK,rfl,rfl⟩:=hrel
         rename World=>W7
         by_cases iw:p<Y.length
         ·obtain⟨bL,oL,rfl,wI⟩:=nM p iw
          have cL:=J.o.gr.keep (bg.o.jl iw).1;have zL:=blk cL;have p0:(0:Int)≤(p:Int):=by omega
          have p1:(p:Int)<(Y.length:Int):=by omega
          have wK:=zI1 p (by omega)
          have jN:=Kz (show(gM&&(Y.take (p+1)).all (vK q s))=(gb&&decide (0<hOf q s Y[p])) by
           rw[List.take_succ_eq_append_getElem iw,List.all_append,cK.o];simp[GR,Bool.and_assoc])
          cases gb with
          |false=>
           go_wp2_with fail;exact⟨⟨p+1,false,by omega,Kz (J.o.grow gd),Kz (az.gr ai.o gd),Kz (bV.o.gr gd),Kz (by rw[jN.o];rfl),by go_num,rfl⟩,by simp[intOf];omega⟩
          |true=>
           obtain⟨HV,jX⟩:=nm (hOf q s Y[p]);rw[←jX] at jN;have rT:=Kz jX;clear jX;go_wp2_with fail;refine(Dn (q,D) s Y[p] w.heap.size (w.heap.size+1+1) bo _ (Rd.gr nP.o (J.o.gr.trans gd)) ((nZ.o _ J.o.vg).gr gd) ((gd:Gr W7 _).keep J.o.box.box) (az.gr J.o.row gd) J.o.len).mono ?_;rw[show hOf ((q,D):af d).1 s Y[p]=HV from rT.o.symm];rintro e w' ⟨rfl,x9,rfl⟩;go_wp2_with fail;exact⟨⟨p+1,decide (0<HV),by omega,Kz (J.o.grow gd),Kz (az.gr ai.o gd),Kz (bV.o.gr gd),Kz (by rw[jN.o];rfl),by go_num,rfl⟩,by simp[intOf];omega⟩
         ·obtain rfl:p=Y.length:=by omega
          rw[List.take_length,←l8.o] at cK;have zn:=ai.o.cell (k:=i) (by rw[pM.o];omega);have fn:=az.frozen ai.o i;have wN:=blk zn
          cases gb with
          |false=>
           have j4:=Kz (l6.o.trans (if_neg (fun h=>by rw[show nU q s q0 D[m]=false from cK.o.symm] at h;cases h)));go_wp2_with fail;exact⟨⟨m+1,by omega,Kz (J.o.grow gd),Kz (by rw[j4.o];exact az.gr ai.o gd),Kz (bV.o.gr gd),by go_num⟩,by simp[intOf];omega⟩
          |true=>
           have j4:=Kz (l6.o.trans (if_pos (show nU q s q0 D[m]=true from cK.o.symm)));go_wp2_with fail;exact⟨⟨m+1,by omega,Kz (J.o.set (by have:=kX.o;omega) _ _),Kz (by rw[j4.o];exact ai.o.set i ((k:Int)+1)),Kz (bV.o.ne pG.o),by go_num⟩,by simp[intOf];omega⟩
       ·obtain rfl:m=D.length:=by omega
        go_wp2_with fail;exact⟨⟨i+1,by omega,Kz (bN.o.grow gd),Kz (by rw[←bH.o];exact az.gr gB.o gd),by go_num⟩,by simp[intOf];omega⟩
    ·obtain rfl:i=q.length:=by omega
     have mo:=Kz (show hts (q,D) (k+1)=mP (q,D) s ((k:Int)+1) q.length by rw[wD,←dL.o]);have fc:=H.o.box.frozen 0;go_wp2_with fail;refine⟨⟨k+1,b2,by omega,Kz ?_,by go_num⟩,by simp[intOf];omega⟩;have hn:=kX.o;have cO:=H.o.ge;refine⟨Gr.setCell H.o.gr cO.1 _,H.o.vg.ne cO.2.2.2.1.symm,?_,?_,by rw[mo.o];exact fe.o,cO.1,hn.1,hn.2.2.1.symm,cO.2.2.2.1,hn.2.1⟩
     ·have:=H.o.box.set 0 (.slice (some ⟨b2,0,none⟩) q.length q.length)
      exact this
     ·rw[mo.o]
      exact az.ne ax.o hn.2.2.1
  ·obtain rfl:k=q.length:=by omega
   have oq:¬((q.length:Int)+1≤(q.length:Int)):=by omega
   go_wp2_with fail;go_ret;obtain⟨fo,mq,-⟩:=lF.slR (rest:=[]) (w:=I) (b:=bo) (xs:=s) (by unfold lF;rw[List.append_nil];exact E.o.row) (fun y hy=>by have:=dU.o y hy;omega) (by rw[U.o];omega) (cap:=q.length) (by rw[U.o];exact Nat.le_refl _);rw[U.o] at mq;exact⟨_,fo,rfl,by rw[←dL.o];exact mq.gr gd,E.o.gr.trans gd⟩
end Go.Proofs.YtdhighcpmcdmmaaGreat
