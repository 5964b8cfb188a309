/- Contracts and laws towards ReadsOf, part 39 of 54. No condition. -/
import Derived.Test.YtleafadpfeibfaaGreatRx39
import Derived.Test.YtleafadpfeibfaaGreatRx36
set_option maxHeartbeats 32000000
set_option maxRecDepth 10000
set_option linter.unusedVariables false
set_option linter.unusedSimpArgs false
namespace Go.Proofs.YtleafadpfeibfaaGreat
open Go.RowKit
variable{d:Nat}
variable{w0 W:World}{v0 v1 v2 v3:Value}{L:List av}{n bz bv bk bs br f:Nat}{fp:List Nat}{o:Option Eng}{s:Eng}
def ImS(w0:World)(v0 v1 v2 v3:Value)(L:List av)(n bz bv bk bs br f:Nat)(fp:List Nat)(o:Option Eng)(W:World):Prop:=
 match o with
 |some s=>ImC w0 v0 v1 v2 v3 L n bz bv bk bs br fp s false W∧OkE n f s
 |none=>∃s,ImC w0 v0 v1 v2 v3 L n bz bv bk bs br fp s true W
theorem ImS.mono{h:Nat}(k:ImS w0 v0 v1 v2 v3 L n bz bv bk bs br f fp o W)(q:f≤h):ImS w0 v0 v1 v2 v3 L n bz bv bk bs br h fp o W:=by
 cases o with
 |none=>exact k
 |some s=>exact⟨k.1,k.2.mono q⟩
theorem ImS.grow{W':World}(k:ImS w0 v0 v1 v2 v3 L n bz bv bk bs br f fp o W)(hg:Gr W W'):ImS w0 v0 v1 v2 v3 L n bz bv bk bs br f fp o W':=by
 cases o with
 |none=>obtain⟨s,h⟩:=k;exact⟨s,h.grow hg⟩
 |some s=>exact⟨k.1.grow hg,k.2⟩
theorem ImS.core(h:ImS w0 v0 v1 v2 v3 L n bz bv bk bs br f fp o W):∃s cyc,ImC w0 v0 v1 v2 v3 L n bz bv bk bs br fp s cyc W∧((o=some s∧cyc=false∧OkE n f s)∨(o=none∧cyc=true)):=by
 cases o with
 |none=>obtain⟨s,h⟩:=h;exact⟨s,true,h,.inr ⟨rfl,rfl⟩⟩
 |some s=>exact⟨s,false,h.1,.inl ⟨rfl,rfl,h.2⟩⟩
theorem ImC.fixed{cyc:Bool}(h:ImC w0 v0 v1 v2 v3 L n bz bv bk bs br fp s cyc W):W.cell? ⟨bz,0,none⟩=some v0∧W.cell? ⟨bz,1,none⟩=some v1∧W.cell? ⟨bz,2,none⟩=some v2∧W.cell? ⟨bz,3,none⟩=some v3∧W.cell? ⟨bz,9,none⟩=some (.bool cyc):=
 ⟨h.hz.c 0,h.hz.c 1,h.hz.c 2,h.hz.c 3,h.hz.c 9⟩
def Kh(w0:World)(v0 v1 v2 v3:Value)(L:List av)(n bz bv bk bs br f:Nat)(C:Eng→Nat→Res):Prop:=
 ∀(fp:List Nat) (s:Eng) (W:World) (k:Nat),ImS w0 v0 v1 v2 v3 L n bz bv bk bs br f fp (some s) W→s.on n k→s.reads.getD k []=[]→
  Calls Tryz.prog 77 #[.pointer (some ⟨bz,0,none⟩),.int .i64 (k:Int)] W (Got (ImS w0 v0 v1 v2 v3 L n bz bv bk bs br f) fp W (C s k))
def FT(w0:World)(v0 v1 v2 v3:Value)(L:List av)(n bz bv bk bs br f:Nat)(G:Eng→Int→Int→Res):Prop:=
 ∀(fp:List Nat) (o:Option Eng) (W:World) (x:av) (by_:Int),(Lit.int .i64 x.1).wf=true→x.2.size≤maxLen→ImS w0 v0 v1 v2 v3 L n bz bv bk bs br f fp o W→(by_<0∨(by_<n∧∀s,o=some s→s.busy by_∧(s.reads.getD by_.toNat []).length<2000))→
  Calls Tryz.prog 44 #[.pointer (some ⟨bz,0,none⟩),.agg #[.int .i64 x.1,.string x.2],.int .i64 by_] W (Got (ImS w0 v0 v1 v2 v3 L n bz bv bk bs br f) fp W (o.bind fun s=>G s (gL L x) by_))
theorem ImS.vI{fq:List Nat}{w':World}{v:Int}(hv:(Lit.int .i64 v).wf=true)(h:ImC w0 v0 v1 v2 v3 L n bz bv bk bs br fq s true w')(hm:MvW fp W fq w'):Got (ImS w0 v0 v1 v2 v3 L n bz bv bk bs br f) fp W none (.returned (.int .i64 v)) w':=
 ⟨v,fq,rfl,hv,⟨s,h⟩,fun p h=>(by cases h),hm⟩
theorem ImS.nZ{fq:List Nat}{w':World}{v:Int}(hv:(Lit.int .i64 v).wf=true)(h:ImC w0 v0 v1 v2 v3 L n bz bv bk bs br fq s false w')(hk:OkE n f s)(hm:MvW fp W fq w'):Got (ImS w0 v0 v1 v2 v3 L n bz bv bk bs br f) fp W (some (v,s)) (.returned (.int .i64 v)) w':=
 ⟨v,fq,rfl,hv,⟨h,hk⟩,fun p h=>(by obtain rfl:=Option.some.inj h;rfl),hm⟩
section
variable{w0:World}{v0 v1 v2:Value}{L:List av}{aL:Option Addr}{kL:Nat}{bz bv bk bs br:Nat}
theorem ER{C:Eng→Nat→Res}(hL:∃fl,SlR fl w0 (.slice aL L.length kL) L)(hn:L.length≤1048576)(yu:∀s (k:Nat) p,s.on L.length k→C s k=some p→p.2.busy k)(hC:∀e,f=e+1→Kh w0 v0 v1 v2 (.slice aL L.length kL) L L.length bz bv bk bs br e C):FT w0 v0 v1 v2 (.slice aL L.length kL) L L.length bz bv bk bs br f (getTop C):=by
 intro fp o W x by_ y5 y7 hS hb
 have LB:=Kz hL;have LC:=Kz hC;have LD:=Kz yu;have HX:=Kz (And.intro y5 y7);have HB:=Kz hb;have HS:=Kz hS;obtain⟨V,X⟩:=x;obtain⟨i0,hi,y8,za,ze⟩:=info_parts Tryz.o6;have HZ:=Kz (And.intro hi (And.intro y8 (And.intro za ze)));clear hC yu hL y5 y7 hb hi y8 za ze;obtain⟨s,cyc,hc,fu⟩:=hS.core;have D:=Kz hc;have x9:=Kz fu;obtain⟨y0,y1,y2,y3,y9⟩:=hc.fixed;obtain⟨KX,aZ⟩:=nm (gL L (V,X));have zf:=Kz aZ;have LF:=Kz (show KX<L.length∧-1≤KX by rw[aZ];have:=kS L (V,X);omega);rw[←aZ];have LG:=Kz (fun W=>bZ (w:=W) V X HX.o.1 HX.o.2);obtain⟨B,hB⟩:=nm (W.alloc (.cells #[.int .i64 V,.string X] 45));have gB:Gr W B:=by rw[hB];exact gd
 have bg:=Kz gB;have VB:=Kz (show az B W.heap.size 45 [.int .i64 V,.string X] by rw[hB];exact az.new rfl)
 have gD:=Kz (fun x:Ext=>by
  obtain⟨fl,hl⟩:=LB.o;exact wH L (V,X) (B.ext x) (hl.gr (D.o.gr.trans (tg bg))) (LG.o _))
 rw[←aZ] at gD;have c3:=gB.keep y3;have c9:=gB.keep y9;have zc:=blk c3;obtain⟨b0,b1⟩:=VB.o.c2;have zb:=blk b0;have lq:=Kz (hc.grow gB);clear hc fu y0 y1 y2 y3 y9 aZ gB;rcases x9.o with⟨rfl,rfl,zg⟩|⟨rfl,rfl⟩
 ·have HK:=Kz zg
  clear zg
  by_cases bR:KX<0
  ·show Calls _ _ _ _ (Got _ fp W (getTop C s KX by_))
   rw[wO bR];go_in;go_wp2_with fail;rw[←hB];clear hB;refine wg ?_
   iterate 7 (go_big_quiet_step (first|(go_at_call 43;exact aG (gD.o _))))
   refine wq fun x2=>?_
   go_wp2_with fail;go_ret;exact ImS.nZ (by decide) (lq.o.grow gd) HK.o (MvW.dm (tg bg))
  ·obtain⟨m,rfl⟩:∃m:Nat,KX=m:=⟨KX.toNat,by omega⟩
   have hm:m<L.length:=by have:=LF.o.1;omega
   have zl:L.getD m iN=(V,X):=by
    rcases ui L (V,X) with h|⟨k,h,h2,h3⟩
    ·have:=zf.o;omega
    ·obtain rfl:m=k:=by have:=zf.o;omega
     rw[getD_at h2,h3]
   have LH:=Kz zl
   show Calls _ _ _ _ (Got _ fp W (getTop C s m by_))
   clear bR zl;obtain⟨I,ah⟩:=nm (s.rd m by_);have gF:=fun h=>mh (C:=C) (s:=s) (m:=m) (by_:=by_) (by rw[←ah];exact h)
   have ax:=fun h=>l8 (C:=C) (s:=s) (m:=m) (by_:=by_) (by rw[←ah];exact h)
   have ay:=fun h=>ma (C:=C) (s:=s) (m:=m) (by_:=by_) (by rw[←ah];exact h)
   rw[←ah] at ax ay;obtain⟨Mi,oH⟩:=nm (getTop C s m by_);rw[←oH] at gF ax ay ⊢;have LK:=Kz (fun p (h:C (I.mark m) m=some p)=>fun gT=>(LD.o (I.mark m) m p gT h).2);have zn:=Kz ah;clear ah oH;go_in;go_wp2_with fail;rw[←hB];clear hB;refine wg ?_
   iterate 7 (go_big_quiet_step (first|(go_at_call 43;exact aG (gD.o _))))
   refine wq fun x2=>?_
   obtain⟨T,oL⟩:=nm (B.ext x2);have gX:Gr B T:=by rw[oL];exact gd
   rw[←oL];have b0:=gX.keep b0;have b1:=gX.keep b1;have zb:=blk b0;replace D:=Kz (lq.o.grow gX);have o5:=Kz (MvW.dm (fp:=fp) (bg.o.trans gX));have LM:=Kz (bg.o.trans gX);have q9:T.cell? ⟨bz,9,none⟩=some (.bool false):=D.o.hz.c 9;have LP:=blk q9;clear oL gX c3 c9 zc
   go_upto_if 24 with fail
   go_cut [] (fun wr=>∃FX,Ky (ImC w0 v0 v1 v2 (.slice aL L.length kL) L L.length bz bv bk bs br FX I false wr)∧Ky (OkE L.length f I)∧Ky (MvW fp W FX wr))
   case first=>
    by_cases Mj:by_<0
    ·have ai:I=s:=by rw[zn.o];unfold Eng.rd;rw[if_neg (by omega)]
     have ik:=Kz ai;clear ai;go_wp2_with fail;go_meet;exact⟨fp,Kz (by rw[ik.o];exact D.o.grow gd),Kz (by rw[ik.o];exact HK.o),Kz (o5.o.gr gd)⟩
    ·obtain⟨j,rfl⟩:∃j:Nat,by_=j:=⟨by_.toNat,by omega⟩
     have zo:=(HB.o.resolve_left (by omega));have zq:j<L.length:=by omega
     obtain⟨zu,iw⟩:=zo.2 s rfl;simp only[Int.toNat_natCast] at iw;have ai:I={s with reads:=s.reads.set j (s.reads.getD j []++[m])}:=by rw[zn.o];unfold Eng.rd;rw[if_pos (by omega)];simp
     have o9:OkE L.length f I:=by rw[ai];exact HK.o.push zu.2 hm iw
     have LQ:=Kz iw;have ik:=Kz ai;have Lm:=Kz o9;clear ai o9 zo zu iw
     have LU:∀b∈fp,b≠W.heap.size:=fun b hb e=>by
      subst e;obtain⟨s9,c9,h9,-⟩:=HS.o.core;exact Nat.lt_irrefl _ (h9.lt _ hb)
     obtain⟨vj,LV,ak,zx,qb,Ls,zy,zH⟩:=D.o.push zq;obtain⟨aj,cj,rfl⟩:=qb.form;have q8:=Kz qb;have au:=Kz zy;have sO:=Kz zH;have kr:=Kz D.o.gr;obtain⟨LJ,uf⟩:=nm (l7 L (s.reads.getD j []));have uo:=Kz (show LJ.length<2000 by rw[uf];unfold l7;rw[List.length_map];exact LQ.o);rw[←uf] at q8 ak au sO;have c7:T.cell? ⟨bz,7,none⟩=some (.slice (some ⟨br,0,none⟩) L.length L.length):=D.o.hz.c 7;have zL:=blk ak;have j1:(j:Int)<(L.length:Int):=by omega
     clear qb Ls zy zH uf;go_wp2_with fail
     have uq:W.heap.size∉(Value.slice aj LJ.length cj).ownBlock.toList:=by
      obtain⟨s9,Mk,h9,hh⟩:=HS.o.core
      obtain rfl:s=s9:=by
       rcases hh with⟨h,-,-⟩|⟨h,-⟩
       ·exact Option.some.inj h
       ·cases h
      obtain⟨LW,Mh,Lv,-,Lx,-⟩:=h9.push zq;have e9:=o5.o;have zO:T.cell? ⟨br,j,none⟩=some LW:=(LM.o).keep Lv;rw[ak] at zO;obtain rfl:=Option.some.inj zO;intro hm
      have:=(Lx.base _ (by simpa using hm)).2;omega
     have LX:=fun(w':World) (h:Wr (Value.slice aj LJ.length cj).ownBlock.toList T w')=>(⟨h.aO c7 (fun hm=>(au.o _ hm).1 rfl),h.aO ak (fun hm=>(au.o _ hm).2.2.2.2 rfl),h.aO b0 uq,h.aO b1 uq⟩:_∧_∧_∧_)
     refine eB (fun w'=>Wr (Value.slice aj LJ.length cj).ownBlock.toList T w'∧Gr w0 w') 16 (by kernel_rfl) (⟨(Gr.drew (Gr.refl T)).eF _,kr.o.drew⟩) (fun hU=>?_)
     refine aN 0 ?_
     refine aN 4 ?_
     refine aN 5 ?_
     refine aN 9 ?_
     refine aN 12 ?_
     refine aN 1 ?_
     refine aN 6 ?_
     refine aN 2 ?_
     refine aN 7 ?_
     refine aN 3 ?_
     refine aN 8 ?_
     refine aN 10 ?_
     refine aN 11 ?_
     refine dw [13] ?_
     refine(bf.cons rfl (fun K Y=>?_) bf.nil);go_simp;refine Y.out _ _ ⟨(gd:Gr T (T.drew.alloc (.cells #[.int .i64 V,.string X] 45))).eF _,kr.o.trans gd⟩ (fun uz=>?_);clear Y K
     try simp only[Act.put,uq1,uq2,uq3]
     refine dw [14] ?_
     refine(bf.cons rfl (fun K Y=>?_) bf.nil);refine gU (α:=av) (wg:=w0) (w0:=w0) (tg kr) (Nat.le_refl _) (Nat.le_trans kr.o.size (by simp)) (by rfl) _ _ _ (by rfl) 45 i0 _ _ Tryz.underlying34 HZ.o.1 HZ.o.2.1 HZ.o.2.2.1 HZ.o.2.2.2 rfl (.slice aj LJ.length cj) LV _ (by rfl) (q8.o.gr gd) _ [[]] [(V,X)] (by rfl) ((eT.one (w:=T) (g:=T.heap.size) rfl (bZ V X HX.o.1 HX.o.2)).gr gd) (fun b _=>by simp) (by have:=uo.o;unfold maxLen;simp;omega) (by have:=uo.o;simp;omega) ?_;intro v9 w9 k1 k2 k3 k4
     have bq:Wr (Value.slice aj LJ.length cj).ownBlock.toList T w9:=((gd:Gr T (T.drew.alloc (.cells #[.int .i64 V,.string X] 45))).eF _).trans k2;have z8:v9.ownBlock=(Value.slice aj LJ.length cj).ownBlock∨∃n,v9.ownBlock=some n∧T.heap.size≤n:=k3.imp id fun h=>⟨_,h,(gd:Gr T (T.drew.alloc (.cells #[.int .i64 V,.string X] 45))).size⟩
     obtain⟨fq,A7,ve⟩:=sO.o w9 v9 m bq k4 (by rw[LH.o];exact k1) z8;have bX:ImC w0 v0 v1 v2 (.slice aL L.length kL) L L.length bz bv bk bs br fq I false (w9.setCell ⟨br,j,none⟩ v9):=by rw[ik.o];exact A7
     obtain⟨va,vc,rfl⟩:=k1.form;have e9:Value.slice va (LJ++[(V,X)]).length vc=.slice va (LJ.length+1) vc:=by simp
     rw[e9] at bX ve;have BM:=Kz bX;have EB:=Kz ve;have d9:=bq.aO ak (fun hm=>(au.o _ hm).2.2.2.2 rfl);have f9:=bq.vZ zx zL (fun hm=>(au.o _ hm).2.2.2.2 rfl);have E5:=Kz bq;have F4:=Kz k4;clear k1 k2 k3 z8 k4 A7 bX ve e9 bq;refine Y.out _ _ ⟨E5.o,F4.o⟩ (fun LY=>?_);clear Y K
     try simp only[Act.put,uq1,uq2,uq3]
     refine aN 15 ?_
     refine dw [16] ?_
     refine bf.last rfl (fun K Y=>?_)
     go_simp;refine Y.out _ _ ?_;clear Y K
     try simp only[Act.put,uq1,uq2,uq3]
     refine fF (by kernel_rfl) ?_ _
     skip;obtain⟨O,F5⟩:=nm (w9.setCell ⟨br,j,none⟩ (.slice va (LJ.length+1) vc));rw[←F5] at BM EB ⊢;clear F5 c7 q9 ak zL zx d9 f9 LX E5 F4 sO q8 uo au uz LY uq b0 b1 zb LU;go_wp2_with fail;go_meet;exact⟨fq,Kz (BM.o.grow gd),Lm,Kz ((o5.o.trans EB.o).gr gd)⟩
   case rest=>
    clear b0 b1 zb q9 LP D HK;obtain⟨FX,D,HK,HM⟩:=hcut
    rename World=>O
    -- world O, state I (= s.rd m by_), D : ImC .. FX I false O, HK : OkE, HM : MvW fp W FX O
    have c4:O.cell? ⟨bz,4,none⟩=some (.slice (some ⟨bv,0,none⟩) L.length L.length):=D.o.hz.c 4;have c5:O.cell? ⟨bz,5,none⟩=some (.slice (some ⟨bk,0,none⟩) L.length L.length):=D.o.hz.c 5;have c6:O.cell? ⟨bz,6,none⟩=some (.slice (some ⟨bs,0,none⟩) L.length L.length):=D.o.hz.c 6;have c9:O.cell? ⟨bz,9,none⟩=some (.bool false):=D.o.hz.c 9;have zc:=blk c4;have Z:m<I.st.length:=by rw[HK.o.sl];exact hm
    have ku:m<I.vals.length:=by rw[D.o.vl];exact hm
    have cK:O.cell? ⟨bk,m,none⟩=some (.bool (decide (I.st.getD m 0=2))):=by
     have:=D.o.hk.cell (k:=m) (by simpa using Z);rw[this,getD_at Z];simp
    have cB:O.cell? ⟨bs,m,none⟩=some (.bool (decide (I.st.getD m 0=1))):=by
     have:=D.o.hs.cell (k:=m) (by simpa using Z);rw[this,getD_at Z];simp
    have cV:O.cell? ⟨bv,m,none⟩=some (.int .i64 (I.vals.getD m 0)):=by
     have:=D.o.hv.cell (k:=m) ku;rw[this,getD_at ku]
    have fS:=az.frozen D.o.hs m;have m0:(0:Int)≤(m:Int):=by omega
    have m1:(m:Int)<(L.length:Int):=by omega
    obtain⟨y,hy⟩:=nm (I.vals.getD m 0);rw[←hy] at cV;have HY:=Kz hy
    have vB:I.st.getD m 0≤2:=by
     rw[getD_at Z];exact HK.o.st2 _ (List.getElem_mem Z)
    clear hy;rcases(show I.st.getD m 0=2∨I.st.getD m 0=1∨I.st.getD m 0=0 by omega) with h1|h1|h1
    ·rw[h1] at cK cB
     have HR:=Kz (ax h1);replace cK:O.cell? ⟨bk,m,none⟩=some (.bool true):=cK;clear h1 vB cB;go_wp2_with fail;go_ret;rw[HR.o,←HY.o];exact ImS.nZ (by rw[HY.o,getD_at ku];exact D.o.wf _ (List.getElem_mem ku)) (D.o.grow gd) HK.o (HM.o.gr gd)
    ·rw[h1] at cK cB
     have HR:=Kz (gF h1);replace cK:O.cell? ⟨bk,m,none⟩=some (.bool false):=cK;replace cB:O.cell? ⟨bs,m,none⟩=some (.bool true):=cB;have fz:=D.o.hz.frozen 9;clear h1 vB;go_wp2_with fail;go_ret;rw[HR.o];exact ImS.vI (by decide) (D.o.wN true) (HM.o.trans (D.o.setCell D.o.mem.1 _ _))
    ·rw[h1] at cK cB
     replace cK:O.cell? ⟨bk,m,none⟩=some (.bool false):=cK;replace cB:O.cell? ⟨bs,m,none⟩=some (.bool false):=cB;have HR:=Kz (ay h1);have vD:=Kz h1
     have LZ:∃e,f=e+1:=by
      have h2:=j5 0 1 I.st m Z;rw[if_pos (by rw[←getD_at (z:=0) Z];exact h1),if_neg (by decide)] at h2;have h3:=HK.o.free;exact⟨f - 1,by omega⟩
     obtain⟨e,rfl⟩:=LZ;have vF:=HK.o.mark hm vD.o;have vG:ImC w0 v0 v1 v2 (.slice aL L.length kL) L L.length bz bv bk bs br FX (I.mark m) false (O.setCell ⟨bs,m,none⟩ (.bool true)):=D.o.sG hm (by rw[vD.o];decide) true;have cO:MvW fp W FX (O.setCell ⟨bs,m,none⟩ (.bool true)):=HM.o.trans (D.o.setCell D.o.mem.2.2.2.1 _ _);have gT:(I.mark m).on L.length m:=⟨⟨by omega,gM _ _ _ (by simpa using Z)⟩,by show(I.st.set _ _).length=L.length;rw[List.length_set];exact HK.o.sl⟩;have F6:(I.mark m).reads.getD m []=[]:=HK.o.emp m vD.o;clear h1 vB;go_wp2_with fail;obtain⟨W1,F8⟩:=nm (O.setCell ⟨bs,m,none⟩ (.bool true));rw[←F8] at vG cO ⊢;have L6:=Kz vG;have L8:=Kz cO;have L9:=Kz vF;have Ha:=Kz gT;have Ma:=Kz F6;clear F8 vG cO vF gT F6 c4 c5 c6 c9 zc cK cB cV fS;refine(LC.o e rfl FX (I.mark m) _ m ⟨L6.o.grow gd,L9.o⟩ Ha.o Ma.o).mono ?_;rintro e2 w2 ⟨v,fq,rfl,hv,ky,vL,He⟩;obtain⟨RC,vO⟩:=nm (C (I.mark m) m);rw[←vO] at ky vL HR
     obtain⟨s2,cyc,H5,Mc⟩:∃s2 cyc,ImC w0 v0 v1 v2 (.slice aL L.length kL) L L.length bz bv bk bs br fq s2 cyc w2∧((RC=none∧cyc=true)∨(RC=some (v,s2)∧cyc=false∧OkE L.length e s2∧s2.st.getD m 0=1)):=by
      cases RC with
      |none=>
       obtain⟨s2,h2⟩:=ky;exact⟨s2,true,h2,.inl ⟨rfl,rfl⟩⟩
      |some p=>
       obtain⟨u,s2⟩:=p;obtain⟨h2,h3⟩:=ky;obtain rfl:u=v:=vL _ rfl;exact⟨s2,false,h2,.inr ⟨rfl,rfl,h3,by have:=LK.o _ vO.symm Ha.o;simpa using this⟩⟩
     have HV:=Kz hv;have IV:=Kz (L8.o.trans ((MvW.dm gd).trans He));have J:=Kz H5;have d6:w2.cell? ⟨bz,6,none⟩=some (.slice (some ⟨bs,0,none⟩) L.length L.length):=J.o.hz.c 6;have vR:m<s2.st.length:=by rw[J.o.sl];exact hm
     have dB:=J.o.hs.cell (k:=m) (by simpa using vR);have gS:=az.frozen J.o.hs m;have n1:bz≠bs:=J.o.apart.1.2.2.1;have n2:=n1.symm;clear ky vL H5 hv He vO;rcases Mc with⟨rfl,rfl⟩|⟨rfl,rfl,vX,dS⟩
     ·have d9:w2.cell? ⟨bz,9,none⟩=some (.bool true):=J.o.hz.c 9
      obtain⟨s3,bB⟩:=J.o.Hy hm;have U:=Kz bB;clear bB;go_wp2_with fail;go_ret;rw[HR.o];exact ImS.vI (by decide) (U.o.grow gd) (IV.o.trans ((J.o.setCell J.o.mem.2.2.2.1 _ _).gr gd))
     ·have d9:w2.cell? ⟨bz,9,none⟩=some (.bool false):=J.o.hz.c 9
      have bB:=J.o.sG hm (by rw[dS];decide) false;have U:=Kz bB;have wF:=Kz vX;have LA:=Kz dS;clear bB vX dS;go_wp2_with fail;obtain⟨w3,K3⟩:=nm (w2.setCell ⟨bs,m,none⟩ (.bool false));have K4:=Kz (IV.o.trans (J.o.setCell J.o.mem.2.2.2.1 m (.bool false)));rw[←K3] at U K4 ⊢;clear K3 d6 dB gS d9 vR;have e4:w3.cell? ⟨bz,4,none⟩=some (.slice (some ⟨bv,0,none⟩) L.length L.length):=U.o.hz.c 4;have e5:w3.cell? ⟨bz,5,none⟩=some (.slice (some ⟨bk,0,none⟩) L.length L.length):=U.o.hz.c 5;refine wp_region_held_drew (S:=fun w'=>w'.cell? ⟨bz,4,none⟩=some (.slice (some ⟨bv,0,none⟩) L.length L.length)∧w'.cell? ⟨bz,5,none⟩=some (.slice (some ⟨bk,0,none⟩) L.length L.length)) (by kernel_rfl) ⟨(gd:Gr w3 w3.drew).keep e4,(gd:Gr w3 w3.drew).keep e5⟩ (fun yc=>?_);refine aK 0 84 ?_;refine aK 1 85 ?_;refine aK 2 86 ?_;refine aK 3 87 ?_;refine aK 4 88 ?_;refine aK 5 89 ?_;refine aK 6 90 ?_;refine aK 7 91 ?_;refine aK 8 92 ?_;refine aK 9 93 ?_;refine aK 10 94 ?_;refine aK 11 95 ?_;have bH:=Kz (U.o.grow (gd:Gr w3 w3.drew));have wL:m<s2.vals.length:=by rw[show s2.vals.length=L.length from U.o.vl];exact hm
      have gV:=az.frozen bH.o.hv m;have dV:=bH.o.hv.cell (k:=m) wL;have bL:=Kz (bH.o.xS m HV.o);refine gy [12] ?_;refine AllReadyH.cons rfl (fun K Y=>?_) AllReadyH.nil;go_simp;refine Y.out _ _ ⟨bL.o.hz.c 4,bL.o.hz.c 5⟩ (fun uz=>?_);clear Y K
      try simp only[Act.put,uq1,uq2,uq3]
      refine aK 13 96 ?_
      have fe:m<(s2.st.set m (if false=true then 1 else 0)).length:=by rw[List.length_set,show s2.st.length=L.length from by simpa using U.o.sl];exact hm
      have Md:=az.frozen U.o.hk m;have Me:=U.o.hk.cell (k:=m) (by simpa using fe);have n7:bv≠bk:=U.o.apart.2.1.1;have n8:=n7.symm
      have ae:=Kz (bL.o.CG hm (by
       show(s2.st.set m (if false=true then 1 else 0)).getD m 0≠1
       rw[gM _ _ _ (by simpa using fe)]
       decide))
      refine gy [14] ?_
      refine AllReadyH.cons rfl (fun K Y=>?_) AllReadyH.nil
      go_simp;refine Y.out _ _ ⟨ae.o.hz.c 4,ae.o.hz.c 5⟩ (fun Mf=>?_);clear Y K
      try simp only[Act.put,uq1,uq2,uq3]
      refine wpAnyH_done (by kernel_rfl) ?_ _
      have xc:=Kz (K4.o.trans ((MvW.dm (gd:Gr w3 w3.drew)).trans ((bH.o.setCell bH.o.mem.2.1 m (.int .i64 v)).trans (bL.o.setCell bL.o.mem.2.2.1 m (.bool true)))));rw[show((w3.drew).setCell ⟨bv,m,none⟩ (.int .i64 v)).setCell ⟨bk,m,none⟩ (.bool true)=((w3.setCell ⟨bv,m,none⟩ (.int .i64 v)).setCell ⟨bk,m,none⟩ (.bool true)).drew from rfl] at ae xc;obtain⟨w5,K6⟩:=nm (((w3.setCell ⟨bv,m,none⟩ (.int .i64 v)).setCell ⟨bk,m,none⟩ (.bool true)).drew);rw[←K6] at ae xc ⊢;clear K6 uz Mf yc Md Me gV dV e4 e5 fe wL;have e8:w5.cell? ⟨bz,8,none⟩=some (.int .i64 s2.steps):=ae.o.hz.c 8;have g8:=ae.o.hz.frozen 8;go_simp;go_wp2_with fail;go_ret;rw[HR.o]
      have Mg:wrap64 (s2.steps+1)=s2.steps+1:=by
       have La:=wF.o;have h3:=vU 2 s2.st;rw[La.sl] at h3;have h5:0≤s2.steps∧s2.steps≤1048576:=by rw[La.stp];omega
       obtain⟨q,hq⟩:=nm (s2.steps);rw[←hq] at h5 ⊢;exact IntWalk.wrap64_in _ (by omega)
      have Li:=ae.o.oh (wrap64 (s2.steps+1));have Lj:=xc.o.trans (ae.o.setCell ae.o.mem.1 8 (.int .i64 (wrap64 (s2.steps+1))));rw[Mg] at Li Lj ⊢;exact ImS.nZ (s:=s2.done m v) HV.o (by simpa[Eng.done,List.set_set] using Li) ((wF.o.done LA.o v).mono (Nat.le_succ _)) Lj
 ·show Calls _ _ _ _ (Got _ fp W none)
  by_cases bR:KX<0
  all_goals
   go_in;go_wp2_with fail;rw[←hB];clear hB;refine wg ?_
   iterate 7 (go_big_quiet_step (first|(go_at_call 43;exact aG (gD.o _))))
   refine wq fun x2=>?_
   go_wp2_with fail;go_ret;exact ImS.vI (by decide) (lq.o.grow gd) (MvW.dm (tg bg))
end
end Go.Proofs.YtleafadpfeibfaaGreat
