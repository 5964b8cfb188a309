/- Contracts and laws towards ReadsOf, part 36 of 54. No condition. -/
import Derived.Test.YtleafadpfeibfaaGreatRx35
import Derived.Test.YtleafadpfeibfaaGreatRx34
set_option maxHeartbeats 32000000
set_option maxRecDepth 10000
set_option linter.unusedVariables false
set_option linter.unusedSimpArgs false
namespace Go.Proofs.YtleafadpfeibfaaGreat
open Go.RowKit
variable{d:Nat}
def SpS(w0:World)(v0 v1 v2 v3:Value)(n bz bv bs br f:Nat)(fp:List Nat)(o:Option Eng)(W:World):Prop:=
 match o with
 |some s=>SpC w0 v0 v1 v2 v3 n bz bv bs br fp s false W∧OkE n f s
 |none=>∃s,SpC w0 v0 v1 v2 v3 n bz bv bs br fp s true W
theorem SpS.mono{w0:World}{v0 v1 v2 v3:Value}{n bz bv bs br f h:Nat}{fp:List Nat}{o:Option Eng}{W:World}(k:SpS w0 v0 v1 v2 v3 n bz bv bs br f fp o W)(q:f≤h):SpS w0 v0 v1 v2 v3 n bz bv bs br h fp o W:=by
 cases o with
 |none=>exact k
 |some s=>exact⟨k.1,k.2.mono q⟩
theorem SpS.grow{w0:World}{v0 v1 v2 v3:Value}{n bz bv bs br f:Nat}{fp:List Nat}{o:Option Eng}{W W':World}(k:SpS w0 v0 v1 v2 v3 n bz bv bs br f fp o W)(hg:Gr W W'):SpS w0 v0 v1 v2 v3 n bz bv bs br f fp o W':=by
 cases o with
 |none=>exact⟨_,k.choose_spec.grow hg⟩
 |some s=>exact⟨k.1.grow hg,k.2⟩
def J9(w0:World)(v0 v1 v2 v3:Value)(n bz bv bs br f:Nat)(C:Eng→Nat→Res):Prop:=
 ∀(fp:List Nat) (s:Eng) (W:World) (k:Nat),SpS w0 v0 v1 v2 v3 n bz bv bs br f fp (some s) W→s.on n k→s.reads.getD k []=[]→
  Calls Tryz.prog 98 #[.pointer (some ⟨bz,0,none⟩),.int .i64 (k:Int)] W (Got (SpS w0 v0 v1 v2 v3 n bz bv bs br f) fp W (C s k))
def Fu(w0:World)(v0 v1 v2 v3:Value)(n bz bv bs br f:Nat)(G:Eng→Int→Int→Res):Prop:=
 ∀(fp:List Nat) (o:Option Eng) (W:World) (k by_:Int),SpS w0 v0 v1 v2 v3 n bz bv bs br f fp o W→(k<n)→(by_<0∨(by_<n∧∀s,o=some s→s.busy by_∧(s.reads.getD by_.toNat []).length<2000))→
  Calls Tryz.prog 70 #[.pointer (some ⟨bz,0,none⟩),.int .i64 k,.int .i64 by_] W (Got (SpS w0 v0 v1 v2 v3 n bz bv bs br f) fp W (o.bind fun s=>G s k by_))
theorem SpS.vI{w0:World}{v0 v1 v2 v3:Value}{n bz bv bs br f:Nat}{fp fq:List Nat}{s:Eng}{W w':World}{v:Int}(hv:(Lit.int .i64 v).wf=true)(h:SpC w0 v0 v1 v2 v3 n bz bv bs br fq s true w')(hm:MvW fp W fq w'):Got (SpS w0 v0 v1 v2 v3 n bz bv bs br f) fp W none (.returned (.int .i64 v)) w':=
 ⟨v,fq,rfl,hv,⟨s,h⟩,fun p h=>(by cases h),hm⟩
theorem SpS.nZ{w0:World}{v0 v1 v2 v3:Value}{n bz bv bs br f:Nat}{fp fq:List Nat}{s:Eng}{W w':World}{v:Int}(hv:(Lit.int .i64 v).wf=true)(h:SpC w0 v0 v1 v2 v3 n bz bv bs br fq s false w')(hk:OkE n f s)(hm:MvW fp W fq w'):Got (SpS w0 v0 v1 v2 v3 n bz bv bs br f) fp W (some (v,s)) (.returned (.int .i64 v)) w':=
 ⟨v,fq,rfl,hv,⟨h,hk⟩,fun p h=>(by obtain rfl:=Option.some.inj h;rfl),hm⟩
section
variable{w0:World}{v0 v1 v2 v3:Value}{n bz bv bs br:Nat}
theorem wO{C:Eng→Nat→Res}{s:Eng}{k by_:Int}(h:k<0):getTop C s k by_=some (0,s):=by unfold getTop;rw[if_pos h]
theorem Gd(s:Eng)(k by_:Int):(s.rd k by_).st=s.st:=by unfold Eng.rd;split<;>rfl
theorem IB(s:Eng)(k by_:Int):(s.rd k by_).vals=s.vals:=by unfold Eng.rd;split<;>rfl
theorem mh{C:Eng→Nat→Res}{s:Eng}{m:Nat}{by_:Int}(h:(s.rd m by_).st.getD m 0=1):getTop C s m by_=none:=by
 rw[Gd] at h;unfold getTop;rw[if_neg (by omega),if_neg (by simp only[Int.toNat_natCast];omega),if_pos (by simpa using h)]
theorem l8{C:Eng→Nat→Res}{s:Eng}{m:Nat}{by_:Int}(h:(s.rd m by_).st.getD m 0=2):getTop C s m by_=some ((s.rd m by_).vals.getD m 0,s.rd m by_):=by
 rw[Gd] at h;unfold getTop;rw[if_neg (by omega),if_pos (by simpa using h),IB];rfl
theorem ma{C:Eng→Nat→Res}{s:Eng}{m:Nat}{by_:Int}(h:(s.rd m by_).st.getD m 0=0):getTop C s m by_=(C ((s.rd m by_).mark m) m).bind fun p=>some (p.1,p.2.done m p.1):=by
 rw[Gd] at h;unfold getTop;rw[if_neg (by omega),if_neg (by simp only[Int.toNat_natCast];omega),if_neg (by simp only[Int.toNat_natCast];omega)];rfl
theorem EZ{f:Nat}{C:Eng→Nat→Res}(hn:n≤1048576)(o5:∀s (k:Nat) p,s.on n k→C s k=some p→p.2.busy k)(hC:∀e,f=e+1→J9 w0 v0 v1 v2 v3 n bz bv bs br e C):Fu w0 v0 v1 v2 v3 n bz bv bs br f (getTop C):=by
 intro fp o W k by_ hS hk hb
 have y9:=Kz hC;have za:=Kz o5;clear hC o5;obtain⟨i0,hi⟩:=info_parts Tryz.kJ;have HZ:=Kz hi;clear hi
 cases o with
 |none=>
  obtain⟨s,hc⟩:=hS;have B:=Kz hc;clear hc hb;have c4:=B.o.hz.c 4;have c5:=B.o.hz.c 5;have c6:=B.o.hz.c 6;have c7:=B.o.hz.c 7;have c8:=B.o.hz.c 8
  try simp only[List.getElem_cons_succ,List.getElem_cons_zero] at c4 c5 c6 c7 c8
  show Calls _ _ _ _ (Got _ fp W none)
  go_in;go_wp2_with fail
  all_goals
   go_ret;exact SpS.vI (by decide) (B.o.grow gd) (MvW.dm gd)
 |some s=>
  obtain⟨hc,o9⟩:=hS;have B:=Kz hc;have O:=Kz o9;have HB:=Kz hb
  show Calls _ _ _ _ (Got _ fp W (getTop C s k by_))
  clear hc o9 hb
  by_cases zb:k<0
  ·rw[wO zb]
   have c4:=B.o.hz.c 4;have c5:=B.o.hz.c 5;have c6:=B.o.hz.c 6;have c7:=B.o.hz.c 7;have c8:=B.o.hz.c 8
   try simp only[List.getElem_cons_succ,List.getElem_cons_zero] at c4 c5 c6 c7 c8
   go_in;go_wp2_with fail;go_ret;exact SpS.nZ (by decide) (B.o.grow gd) O.o (MvW.dm gd)
  ·obtain⟨m,rfl⟩:∃m:Nat,k=m:=⟨k.toNat,by omega⟩
   have hm:m<n:=by omega
   obtain⟨D,U⟩:=nm (s.rd m by_);have ax:=fun h=>mh (C:=C) (s:=s) (m:=m) (by_:=by_) (by rw[←U];exact h)
   have Y:=fun h=>l8 (C:=C) (s:=s) (m:=m) (by_:=by_) (by rw[←U];exact h)
   have Z:=fun h=>ma (C:=C) (s:=s) (m:=m) (by_:=by_) (by rw[←U];exact h)
   rw[←U] at Y Z;obtain⟨E5,cB⟩:=nm (getTop C s m by_);rw[←cB] at ax Y Z ⊢;have ze:=Kz (fun p (h:C (D.mark m) m=some p)=>fun ay=>(za.o (D.mark m) m p ay h).2);have qb:=Kz U;clear U cB;have c4:=B.o.hz.c 4;have c5:=B.o.hz.c 5;have c6:=B.o.hz.c 6;have c7:=B.o.hz.c 7;have c8:=B.o.hz.c 8
   try simp only[List.getElem_cons_succ,List.getElem_cons_zero] at c4 c5 c6 c7 c8
   go_in
   go_upto_if 16 with fail
   go_cut [] (fun wr=>∃FX,Ky (SpC w0 v0 v1 v2 v3 n bz bv bs br FX D false wr)∧Ky (OkE n f D)∧Ky (MvW fp W FX wr))
   case first=>
    by_cases F4:by_<0
    ·have V:D=s:=by rw[qb.o];unfold Eng.rd;rw[if_neg (by omega)]
     have aZ:=Kz V;clear V;go_wp2_with fail;go_meet;exact⟨fp,Kz (by rw[aZ.o];exact B.o.grow gd),Kz (by rw[aZ.o];exact O.o),Kz (MvW.dm gd)⟩
    ·obtain⟨j,rfl⟩:∃j:Nat,by_=j:=⟨by_.toNat,by omega⟩
     have q8:=(HB.o.resolve_left (by omega));have zf:j<n:=by omega
     obtain⟨q9,bg⟩:=q8.2 s rfl;simp only[Int.toNat_natCast] at bg;have V:D={s with reads:=s.reads.set j (s.reads.getD j []++[m])}:=by rw[qb.o];unfold Eng.rd;rw[if_pos (by omega)];simp
     have cK:OkE n f D:=by rw[V];exact O.o.push q9.2 hm bg
     have aZ:=Kz V;have zg:=Kz cK;obtain⟨vj,zl,bq,sO,cO,y5,uf,uo⟩:=B.o.push zf;obtain⟨aj,cj,rfl⟩:=cO.form;have dB:=Kz cO;have ae:=Kz uf;have fe:=Kz uo;have bB:=Kz B.o.gr;obtain⟨LJ,fu⟩:=nm ((s.reads.getD j []).map Int.ofNat);have gB:=Kz (show LJ.length<2000 by rw[fu,List.length_map];exact bg);rw[←fu] at dB bq ae fe;have uq:=blk bq;have j0:(0:Int)≤(j:Int):=by omega
     have j1:(j:Int)<(n:Int):=by omega
     have zn:=fun(w':World) (h:Wr (Value.slice aj LJ.length cj).ownBlock.toList W w')=>(⟨h.aO c6 (fun hm=>(ae.o _ hm).1 rfl),h.aO bq (fun hm=>(ae.o _ hm).2.2.2 rfl)⟩:_∧_)
     clear V cK q8 q9 bg cO y5 uf uo fu;go_wp2_with fail;refine eB (fun w'=>Wr (Value.slice aj LJ.length cj).ownBlock.toList W w'∧Gr w0 w') 16 (by kernel_rfl) (⟨(Gr.drew (Gr.refl W)).eF _,bB.o.drew⟩) (fun hU=>?_);refine aN 0 ?_;refine aN 4 ?_;refine aN 5 ?_;refine aN 9 ?_;refine aN 12 ?_;refine aN 1 ?_;refine aN 6 ?_;refine aN 2 ?_;refine aN 7 ?_;refine aN 3 ?_;refine aN 8 ?_;refine aN 10 ?_;refine aN 11 ?_;refine dw [13] ?_;refine(bf.cons rfl (fun K J=>?_) bf.nil);go_simp;refine J.out _ _ ⟨(gd:Gr W (W.drew.alloc (.cells #[.int .i64 (m:Int)] 3))).eF _,bB.o.trans gd⟩ (fun uz=>?_);clear J K
     try simp only[Act.put,uq1,uq2,uq3]
     refine dw [14] ?_
     refine(bf.cons rfl (fun K J=>?_) bf.nil);refine gU (α:=Int) (wg:=w0) (w0:=w0) (tg bB) (Nat.le_refl _) (Nat.le_trans bB.o.size (by simp)) (by rfl) _ _ _ (by rfl) 3 i0 (.int .i64 0) 8 Tryz.underlying54 HZ.o.1 HZ.o.2.1 HZ.o.2.2.1 HZ.o.2.2.2 rfl (.slice aj LJ.length cj) zl _ (by rfl) (dB.o.gr gd) _ [[]] [(m:Int)] (by rfl) (eT.gr (eT.one (w:=W) (e:=3) rfl (rO (jm (by omega) (by omega)) _)) (gd:Gr _ _)) (fun b _=>by simp) (by have:=gB.o;unfold maxLen;simp;omega) (by have:=gB.o;simp;omega) ?_;intro v9 w9 k1 k2 k3 k4
     have bH:Wr (Value.slice aj LJ.length cj).ownBlock.toList W w9:=((gd:Gr W (W.drew.alloc (.cells #[.int .i64 (m:Int)] 3))).eF _).trans k2;have ve:v9.ownBlock=(Value.slice aj LJ.length cj).ownBlock∨∃n,v9.ownBlock=some n∧W.heap.size≤n:=k3.imp id fun h=>⟨_,h,(gd:Gr W (W.drew.alloc (.cells #[.int .i64 (m:Int)] 3))).size⟩
     obtain⟨fq,vB,gD⟩:=fe.o w9 v9 m bH k4 k1 ve;have ah:SpC w0 v0 v1 v2 v3 n bz bv bs br fq D false (w9.setCell ⟨br,j,none⟩ v9):=by rw[aZ.o];exact vB
     obtain⟨va,vc,rfl⟩:=k1.form;have e9:Value.slice va (LJ++[(m:Int)]).length vc=.slice va (LJ.length+1) vc:=by simp
     rw[e9] at ah gD;have vD:=Kz ah;have vF:=Kz gD;have f9:=bH.vZ sO uq (fun hm=>(ae.o _ hm).2.2.2 rfl);have vG:=Kz bH;have vL:=Kz k4;clear k1 k2 k3 ve k4 vB ah gD e9 bH;refine J.out _ _ ⟨vG.o,vL.o⟩ (fun zo=>?_);clear J K
     try simp only[Act.put,uq1,uq2,uq3]
     refine aN 15 ?_
     refine dw [16] ?_
     refine bf.last rfl (fun K J=>?_)
     go_simp;refine J.out _ _ ?_;clear J K
     try simp only[Act.put,uq1,uq2,uq3]
     refine fF (by kernel_rfl) ?_ _
     skip;obtain⟨WX,vO⟩:=nm (w9.setCell ⟨br,j,none⟩ (.slice va (LJ.length+1) vc));rw[←vO] at vD vF ⊢;clear vO c4 c5 c6 c7 c8 bq uq sO f9 zn vG vL fe dB gB ae uz zo;go_wp2_with fail;go_meet;exact⟨fq,Kz (vD.o.grow gd),zg,Kz (vF.o.gr gd)⟩
   case rest=>
    clear c4 c5 c6 c7 c8 B O;obtain⟨FX,B,O,HM⟩:=hcut
    rename World=>WX
    -- world WX, state D (= s.rd m by_), B : SpC .. FX D false WX, O : OkE, HM : MvW fp W FX WX
    have c4:=B.o.hz.c 4;have c5:=B.o.hz.c 5;have c6:=B.o.hz.c 6;have c7:=B.o.hz.c 7;have c8:=B.o.hz.c 8
    try simp only[List.getElem_cons_succ,List.getElem_cons_zero] at c4 c5 c6 c7 c8
    have T:m<D.st.length:=by rw[O.o.sl];exact hm
    have bL:m<D.vals.length:=by rw[B.o.vl];exact hm
    have cS:WX.cell? ⟨bs,m,none⟩=some (.int .i64 (D.st.getD m 0:Int)):=by
     have:=B.o.hs.cell (k:=m) (by simpa using T);rw[this,getD_at T];simp
    have cV:WX.cell? ⟨bv,m,none⟩=some (.int .i64 (D.vals.getD m 0)):=by
     have:=B.o.hv.cell (k:=m) bL;rw[this,getD_at bL]
    have fS:=az.frozen B.o.hs m;have m0:(0:Int)≤(m:Int):=by omega
    obtain⟨x,hx⟩:=nm (D.st.getD m 0);rw[←hx] at cS;have HX:=Kz hx;obtain⟨y,hy⟩:=nm (D.vals.getD m 0);rw[←hy] at cV;have HY:=Kz hy
    have F5:x≤2:=by
     rw[hx,getD_at T];exact O.o.st2 _ (List.getElem_mem T)
    clear hx hy;rcases(show x=1∨x=0∨x=2 by omega) with h1|h1|h1
    ·have e1:((x:Int)==1)=true:=by simp[h1]
     have HR:=Kz (ax (by rw[←HX.o];exact h1));have fz:=B.o.hz.frozen 8;clear h1;go_wp2_with fail;go_ret;rw[HR.o];exact SpS.vI (by decide) (B.o.wN true) (HM.o.trans (B.o.setCell B.o.mem.1 _ _))
    ·have e1:((x:Int)==1)=false:=by simp[h1]
     have e0:((x:Int)==0)=true:=by simp[h1]
     have HR:=Kz (Z (by rw[←HX.o];exact h1));have gF:=Kz (show D.st.getD m 0=0 by rw[←HX.o];exact h1)
     have zq:∃e,f=e+1:=by
      have h2:=j5 0 1 D.st m T;rw[if_pos (by rw[←getD_at (z:=0) T];exact gF.o),if_neg (by decide)] at h2;have h3:=O.o.free;exact⟨f - 1,by omega⟩
     obtain⟨e,rfl⟩:=zq;have gT:=O.o.mark hm gF.o;have gV:SpC w0 v0 v1 v2 v3 n bz bv bs br FX (D.mark m) false (WX.setCell ⟨bs,m,none⟩ (.int .i64 1)):=B.o.setSt m 1;have ai:MvW fp W FX (WX.setCell ⟨bs,m,none⟩ (.int .i64 1)):=HM.o.trans (B.o.setCell B.o.mem.2.2.1 _ _);have ay:(D.mark m).on n m:=⟨⟨by omega,gM _ _ _ (by simpa using T)⟩,by show(D.st.set _ _).length=n;rw[List.length_set];exact O.o.sl⟩;have vR:(D.mark m).reads.getD m []=[]:=O.o.emp m gF.o;clear h1;go_wp2_with fail;obtain⟨W1,vX⟩:=nm (WX.setCell ⟨bs,m,none⟩ (.int .i64 1));rw[←vX] at gV ai ⊢;have wF:=Kz gV;have zu:=Kz ai;have zx:=Kz gT;have wL:=Kz ay;have zy:=Kz vR;clear vX gV ai gT ay vR c4 c5 c6 c7 c8 cS cV fS;have k4:W1.cell? ⟨bz,4,none⟩=some (.slice (some ⟨bv,0,none⟩) n n):=wF.o.hz.c 4;refine eB (fun w'=>w'.cell? ⟨bz,4,none⟩=some (.slice (some ⟨bv,0,none⟩) n n)) 9 (by kernel_rfl) ((gd:Gr W1 W1.drew).keep k4) (fun hU=>?_);refine aN 0 ?_;refine aN 4 ?_;refine aN 5 ?_;refine aN 6 ?_;refine aN 1 ?_;refine aN 2 ?_;refine aN 3 ?_;refine dw [7] ?_;refine(bf.cons rfl (fun K J=>?_) bf.nil);go_simp
     go_at_call 98
     refine(y9.o e rfl FX (D.mark m) _ m ⟨wF.o.grow gd,zx.o⟩ wL.o zy.o).mono ?_;rintro e2 w2 ⟨v,fq,rfl,hv,bR,gX,xc⟩;obtain⟨RC,ik⟩:=nm (C (D.mark m) m);rw[←ik] at bR gX HR
     obtain⟨s2,cyc,iw,x9⟩:∃s2 cyc,SpC w0 v0 v1 v2 v3 n bz bv bs br fq s2 cyc w2∧((RC=none∧cyc=true)∨(RC=some (v,s2)∧cyc=false∧OkE n e s2∧s2.st.getD m 0=1)):=by
      cases RC with
      |none=>
       obtain⟨s2,h2⟩:=bR;exact⟨s2,true,h2,.inl ⟨rfl,rfl⟩⟩
      |some p=>
       obtain⟨u,s2⟩:=p;obtain⟨h2,h3⟩:=bR;obtain rfl:u=v:=gX _ rfl;exact⟨s2,false,h2,.inr ⟨rfl,rfl,h3,by have:=ze.o _ ik.symm wL.o;simpa using this⟩⟩
     have X:=Kz iw;have zH:=Kz x9;have HV:=Kz hv;have zL:=Kz xc;have yc:w2.cell? ⟨bz,4,none⟩=some (.slice (some ⟨bv,0,none⟩) n n):=X.o.hz.c 4;have ak:m<s2.vals.length:=by rw[iw.vl];exact hm
     have zO:=X.o.hv.cell (k:=m) ak;have z8:=az.frozen X.o.hv m;clear bR gX iw x9 hv xc ik;refine J.out _ _ yc (fun uz=>?_);clear J K
     try simp only[Act.put,uq1,uq2,uq3]
     refine aN 8 ?_
     refine dw [9] ?_
     refine bf.last rfl (fun K J=>?_)
     go_simp;refine J.out _ _ ?_;clear J K
     try simp only[Act.put,uq1,uq2,uq3]
     refine fF (by kernel_rfl) ?_ _
     skip;have kr:=X.o.xS m HV.o;obtain⟨w3,ku⟩:=nm (w2.setCell ⟨bv,m,none⟩ (.int .i64 v));have yu:MvW fq w2 fq w3:=by rw[ku];exact X.o.setCell X.o.mem.2.1 _ _
     rw[←ku] at kr ⊢;have I:=Kz kr;have A7:=Kz (zu.o.trans ((MvW.dm gd).trans (zL.o.trans yu)));have d4:w3.cell? ⟨bz,4,none⟩=some (.slice (some ⟨bv,0,none⟩) n n):=I.o.hz.c 4;have d5:w3.cell? ⟨bz,5,none⟩=some (.slice (some ⟨bs,0,none⟩) n n):=I.o.hz.c 5;have d7:w3.cell? ⟨bz,7,none⟩=some (.int .i64 s2.steps):=I.o.hz.c 7;have y7:m<(s2.vals.set m v).length:=by rw[List.length_set];exact ak
     have y8:m<(s2.st.map Int.ofNat).length:=by rw[List.length_map,I.o.sl];exact hm
     have dV:w3.cell? ⟨bv,m,none⟩=some (.int .i64 v):=by
      have:=I.o.hv.cell (k:=m) y7;simpa using this
     have dS:=I.o.hs.cell (k:=m) y8;have gS:=az.frozen I.o.hs m;have g7:=I.o.hz.frozen 7;have bX:=I.o.apart;have n1:bz≠bs:=bX.1.2.1;have n2:bv≠bs:=bX.2.1.1;have n3:bz≠bv:=bX.1.1;have n4:=n1.symm;have n5:=n2.symm;have n6:=n3.symm;clear ku yu kr bX k4 yc ak zO z8;go_wp2_with fail;go_ret;have ky:SpC w0 v0 v1 v2 v3 n bz bv bs br fq {s2 with vals:=s2.vals.set m v,st:=s2.st.set m 2} cyc (w3.setCell ⟨bs,m,none⟩ (.int .i64 2)):=I.o.setSt m 2;have lq:=ky.oh (wrap64 (s2.steps+1));have au:=A7.o.trans ((I.o.setCell I.o.mem.2.2.1 m (.int .i64 2)).trans (ky.setCell ky.mem.1 7 (.int .i64 (wrap64 (s2.steps+1)))));rcases zH.o with⟨oH,rfl⟩|⟨oH,rfl,oL,BM⟩
     ·rw[HR.o,oH]
      exact SpS.vI HV.o lq au
     ·rw[HR.o,oH]
      have EB:wrap64 (s2.steps+1)=s2.steps+1:=by
       have h3:=vU 2 s2.st;rw[oL.sl] at h3;have h5:0≤s2.steps∧s2.steps≤1048576:=by rw[oL.stp];omega
       obtain⟨q,hq⟩:=nm (s2.steps);rw[←hq] at h5 ⊢;exact IntWalk.wrap64_in _ (by omega)
      rw[EB] at lq au ⊢;exact SpS.nZ (s:=s2.done m v) HV.o lq ((oL.done BM v).mono (Nat.le_succ _)) au
    ·have e1:((x:Int)==1)=false:=by simp[h1]
     have e0:((x:Int)==0)=false:=by simp[h1]
     have HR:=Kz (Y (by rw[←HX.o];exact h1));clear h1;go_wp2_with fail;go_ret;rw[HR.o];rw[←HY.o];exact SpS.nZ (by rw[HY.o,getD_at bL];exact B.o.wf _ (List.getElem_mem bL)) (B.o.grow gd) O.o (HM.o.gr gd)
end
end Go.Proofs.YtleafadpfeibfaaGreat
namespace Go.Proofs.YtleafadpfeibfaaGreat
open Go.RowKit
variable{d:Nat}
section
variable{g:af d}{t:List aT}{L:List av}{G:Eng→Int→Int→Res}{node:Nat}{by_:Int}{n:Nat}{q1 q2 q3:Int}{q4 q5:ByteArray}{q6:List (GE n)}{s:Eng}
theorem F9:eX g t L G node by_ (n+1) ((1,q1,q2,q3,q4,q5,q6):aA n) s=some (q1,s):=rfl
theorem GM:eX g t L G node by_ (n+1) ((2,q1,q2,q3,q4,q5,q6):aA n) s=some (zk t node,s):=rfl
theorem GH:eX g t L G node by_ (n+1) ((3,q1,q2,q3,q4,q5,q6):aA n) s=G s (gL L ((KF t node (q2,q5)).getD iN)) by_:=rfl
theorem Gz{a b:GE n}:eX g t L G node by_ (n+1) ((4,q1,q2,q3,q4,q5,[a,b]):aA n) s=(eX g t L G node by_ n a s).bind fun p=>(eX g t L G node by_ n b p.2).bind fun q=>some (opV q1 p.1 q.1,q.2):=rfl
theorem Gh{a b c:GE n}:eX g t L G node by_ (n+1) ((5,q1,q2,q3,q4,q5,[a,b,c]):aA n) s=(eX g t L G node by_ n a s).bind fun p=>if p.1=0 then eX g t L G node by_ n c p.2 else eX g t L G node by_ n b p.2:=rfl
theorem Gp:eX g t L G node by_ (n+1) ((6,q1,q2,q3,q4,q5,q6):aA n) s=some ((iB t node).getD q2.toNat 0,s):=rfl
theorem GZ:eX g t L G node by_ (n+1) ((7,q1,q2,q3,q4,q5,q6):aA n) s=some (0,s):=rfl
theorem GU{a:GE n}:eX g t L G node by_ (n+1) ((8,q1,q2,q3,q4,q5,[a]):aA n) s=(eX g t L G node by_ n a s).bind fun p=>if zB g t (dQ t p.1)=q4 then G p.2 (gL L (p.1,q5)) by_ else some (0,p.2):=rfl
end
def NdP(m:Nat){n:Nat}(y:aA n):Prop:=(1≤y.1∧y.1≤8)∧y.2.2.2.2.2.2.length=eY y.1∧(y.1=6→0≤y.2.2.1∧y.2.2.1≤m)∧(y.1=8→y.2.2.2.2.1≠ByteArray.empty)
theorem Cf{p q:{d:Nat}→aA d→Prop}(h:∀{d:Nat} (y:aA d),p y→q y):∀(n:Nat) (x:GE n),jh (fun{d} y=>p y) n x→jh (fun{d} y=>q y) n x
 |0,x,_=>PEmpty.elim x
 |n+1,x,B=>⟨h _ B.1,fun z hz=>Cf (fun{d} y=>h y) n z (B.2 z hz)⟩
theorem BU{p q:{d:Nat}→aA d→Prop}:∀(n:Nat) (x:GE n),jh (fun{d} y=>p y) n x→jh (fun{d} y=>q y) n x→jh (fun{d} y=>p y∧q y) n x
 |0,x,_,_=>PEmpty.elim x
 |n+1,x,h,B=>⟨⟨h.1,B.1⟩,fun z hz=>BU n z (h.2 z hz) (B.2 z hz)⟩
theorem dh.ne0{s:ByteArray}(h:dh s):s≠ByteArray.empty:=fun e=>by
 have h1:=h.1.1;rw[e] at h1;exact absurd h1 (by decide)
theorem AA{m:Nat}{n:Nat}{x:aA n}(h:ko m x):jh (fun{d} y=>NdP m y) (n+1) x∧cZ (n+1) x≤24:=by
 obtain⟨⟨h1,T,q⟩,B⟩:=h;refine⟨Cf (fun{d} y hy=>?_) (n+1) x (BU (n+1) x q B),h1⟩;obtain⟨⟨D,I,-,-,J,-,K⟩,O⟩:=hy;exact⟨D,I.1,fun e=>⟨(J e).1,O⟩,fun e=>(K e).1.ne0⟩
theorem NdP.two{m n:Nat}{q0 q1 q2 q3:Int}{q4 q5:ByteArray}{q6:List (GE n)}(h:NdP m ((q0,q1,q2,q3,q4,q5,q6):aA n))(B:q0=4):∃a b,q6=[a,b]:=by
 have q:q6.length=eY q0:=h.2.1;rw[B] at q
 match q6,q with
 |[a,b],_=>exact⟨a,b,rfl⟩
theorem NdP.three{m n:Nat}{q0 q1 q2 q3:Int}{q4 q5:ByteArray}{q6:List (GE n)}(h:NdP m ((q0,q1,q2,q3,q4,q5,q6):aA n))(B:q0=5):∃a b c,q6=[a,b,c]:=by
 have q:q6.length=eY q0:=h.2.1;rw[B] at q
 match q6,q with
 |[a,b,c],_=>exact⟨a,b,c,rfl⟩
theorem NdP.one{m n:Nat}{q0 q1 q2 q3:Int}{q4 q5:ByteArray}{q6:List (GE n)}(h:NdP m ((q0,q1,q2,q3,q4,q5,q6):aA n))(B:q0=8):∃a,q6=[a]:=by
 have q:q6.length=eY q0:=h.2.1;rw[B] at q
 match q6,q with
 |[a],_=>exact⟨a,rfl⟩
theorem kZ{fx:List Nat}{W:World}{B:Option Addr}{X n:Nat}{xs:List (GE n)}(h:SlR fx W (.slice B xs.length X) xs){k:Nat}(hk:k<xs.length):
  ∃b off D I J K O T U q,B=some ⟨b,off,none⟩∧b∈fx∧Rd.rd q W [D,I,J,K,O,T,U] xs[k]∧(∀c∈q,c∈fx)∧
   W.cell? ⟨b,off+k*7,none⟩=some D∧W.cell? ⟨b,off+k*7+1,none⟩=some I∧W.cell? ⟨b,off+k*7+2,none⟩=some J∧W.cell? ⟨b,off+k*7+3,none⟩=some K∧W.cell? ⟨b,off+k*7+4,none⟩=some O∧W.cell? ⟨b,off+k*7+5,none⟩=some T∧W.cell? ⟨b,off+k*7+6,none⟩=some U:=by
 obtain⟨e,rfl⟩:∃e,n=e+1:=by
  cases n with
  |zero=>exact PEmpty.elim (xs[k])
  |succ e=>exact⟨e,rfl⟩
 obtain⟨a,c,hv,-,-,Y⟩:=h.open;injection hv with Z e2 e3;obtain⟨b,off,rfl,hb⟩:=Y k hk;subst Z;obtain⟨cs,q,hc,hr,hs⟩:=h.at hk;have hm:=SlR.vY h (fun e0=>by rw[e0] at hk;simp at hk);obtain⟨y,hy⟩:=nm (xs[k]);rw[←hy] at hr ⊢;obtain⟨p0,p1,p2,p3,p4,p5,p6⟩:=(y:aA e);obtain⟨vp,fq,V,-⟩:=aF (cs:=cs.toArray) p0 p1 p2 p3 p4 p5 p6 (show Rd.rd (α:=aA e) q W cs.toArray.toList _ from hr);obtain rfl:=toL V;have hn:Rd.n (GE (e+1))=7:=rfl;rw[hn] at hc;exact⟨b,off,_,_,_,_,_,_,_,q,rfl,hm,hr,hs,hc 0 _ rfl,hc 1 _ rfl,hc 2 _ rfl,hc 3 _ rfl,hc 4 _ rfl,hc 5 _ rfl,hc 6 _ rfl⟩
theorem SpS.core{w0:World}{v0 v1 v2 v3:Value}{n bz bv bs br f:Nat}{fp:List Nat}{o:Option Eng}{W:World}(h:SpS w0 v0 v1 v2 v3 n bz bv bs br f fp o W):∃s cyc,SpC w0 v0 v1 v2 v3 n bz bv bs br fp s cyc W∧((o=some s∧cyc=false∧OkE n f s)∨(o=none∧cyc=true)):=by
 cases o with
 |none=>obtain⟨s,h⟩:=h;exact⟨s,true,h,.inr ⟨rfl,rfl⟩⟩
 |some s=>exact⟨s,false,h.1,.inl ⟨rfl,rfl,h.2⟩⟩
theorem SpC.fixed{w0:World}{v0 v1 v2 v3:Value}{n bz bv bs br:Nat}{fp:List Nat}{s:Eng}{cyc:Bool}{W:World}(h:SpC w0 v0 v1 v2 v3 n bz bv bs br fp s cyc W):W.cell? ⟨bz,0,none⟩=some v0∧W.cell? ⟨bz,1,none⟩=some v1∧W.cell? ⟨bz,2,none⟩=some v2∧W.cell? ⟨bz,3,none⟩=some v3∧W.cell? ⟨bz,8,none⟩=some (.bool cyc):=
 ⟨h.hz.c 0,h.hz.c 1,h.hz.c 2,h.hz.c 3,h.hz.c 8⟩
theorem Got.lift{S:List Nat→Option Eng→World→Prop}{fp fq:List Nat}{W q w':World}{r R:Res}{e:Ending}(h:Got S fq q r e w')(hm:MvW fp W fq q)(hr:R=r):Got S fp W R e w':=by
 obtain⟨v,f2,h1,B,D,I,J⟩:=h;rw[hr];exact⟨v,f2,h1,B,D,I,hm.trans J⟩
section
variable{w0:World}{g:af d}{t:List aT}{L:List av}{ag0:Option Addr}{kg0:Nat}{ag1:Option Addr}{kg1:Nat}{at_:Option Addr}{kt:Nat}{aL:Option Addr}{kL:Nat}{bz bv bs br f:Nat}
abbrev SpG(w0:World)(g:af d)(t:List aT)(L:List av)(ag0:Option Addr)(kg0:Nat)(ag1:Option Addr)(kg1:Nat)(at_:Option Addr)(kt:Nat)(aL:Option Addr)(kL:Nat)(bz bv bs br f:Nat):List Nat→Option Eng→World→Prop:=
 SpS w0 (.slice ag0 g.1.length kg0) (.slice ag1 g.2.length kg1) (.slice at_ t.length kt) (.slice aL L.length kL) L.length bz bv bs br f
def EvS(w0:World)(g:af d)(t:List aT)(L:List av)(ag0:Option Addr)(kg0:Nat)(ag1:Option Addr)(kg1:Nat)(at_:Option Addr)(kt:Nat)(aL:Option Addr)(kL:Nat)(bz bv bs br f:Nat)(G:Eng→Int→Int→Res)(node by_ m n:Nat):Prop:=
 ∀(x:GE n) (fx:List Nat) (cs:Array Value) (fp:List Nat) (o:Option Eng) (W:World),Rd.rd fx W cs.toList x→Ap fx fp→SpG w0 g t L ag0 kg0 ag1 kg1 at_ kt aL kL bz bv bs br f fp o W→jh (fun{d} y=>NdP m y) n x→(∀s,o=some s→s.on L.length by_∧(s.reads.getD by_ []).length+cZ n x≤2000)→
  Calls Tryz.prog 130 #[.pointer (some ⟨bz,0,none⟩),.agg cs,.int .i64 (node:Int),.int .i64 (by_:Int)] W (Got (SpG w0 g t L ag0 kg0 ag1 kg1 at_ kt aL kL bz bv bs br f) fp W (o.bind fun s=>eX g t L G node by_ n x s))
theorem I4(E:EnvD w0 g t L ag0 kg0 ag1 kg1 at_ kt aL kL){G:Eng→Int→Int→Res}{node by_ m n:Nat}(hG:Fu w0 (.slice ag0 g.1.length kg0) (.slice ag1 g.2.length kg1) (.slice at_ t.length kt) (.slice aL L.length kL) L.length bz bv bs br f G)(bq:KpG L G)(kr:by_<L.length)
  (hE:EvS w0 g t L ag0 kg0 ag1 kg1 at_ kt aL kL bz bv bs br f G node by_ m n)
  (q1 q2 q3:Int) (q4 q5:ByteArray) (a:GE n) (fx:List Nat) (aq:Option Addr) (kq:Nat) (fp:List Nat) (s:Eng) (W:World) (hx:Rd.rd (α:=aA n) fx W [.int .i64 8,.int .i64 q1,.int .i64 q2,.int .i64 q3,.string q4,.string q5,.slice aq 1 kq] (8,q1,q2,q3,q4,q5,[a])) (bB:Ap fx fp)
  (hS:SpG w0 g t L ag0 kg0 ag1 kg1 at_ kt aL kL bz bv bs br f fp (some s) W) (hN:jh (fun{d} y=>NdP m y) n a) (bH:s.on L.length by_) (hb:(s.reads.getD by_ []).length+(1+cZ n a)≤2000):
  Calls Tryz.prog 168 #[.pointer (some ⟨bz,0,none⟩),.agg #[.int .i64 8,.int .i64 q1,.int .i64 q2,.int .i64 q3,.string q4,.string q5,.slice aq 1 kq],.int .i64 (node:Int),.int .i64 (by_:Int)] W (Got (SpG w0 g t L ag0 kg0 ag1 kg1 at_ kt aL kL bz bv bs br f) fp W (eX g t L G node by_ (n+1) ((8,q1,q2,q3,q4,q5,[a]):aA n) s)):=by
 have HE:=Kz E;have HG:=Kz hG;have ku:=Kz hE;have ky:=Kz bB;have HS:=Kz hS;have HN:=Kz hN;have HB:=Kz hb;have T:=Kz bH;have lq:=Kz bq;obtain⟨vq,oH,bL,bR,-,-,-,-,oL,bX,cB⟩:=aF (cs:=#[.int .i64 8,.int .i64 q1,.int .i64 q2,.int .i64 q3,.string q4,.string q5,.slice aq 1 kq]) 8 q1 q2 q3 q4 q5 [a] (by simpa using hx)
 obtain rfl:Value.slice aq 1 kq=vq:=by
  have:=congrArg Array.toList bL;simpa using this
 have o5:∀c∈oH,c∈fx:=fun c hc=>by rw[bR];simpa using hc
 obtain⟨b,off,a0,a1,a2,a3,a4,a5,a6,fa,rfl,o9,cK,cO,z0,z1,z2,z3,z4,z5,z6⟩:=kZ (xs:=[a]) cB (k:=0) (by simp);rw[Nat.zero_mul,Nat.add_zero] at z0 z1 z2 z3 z4 z5 z6;have ae:Rd.rd fa W [a0,a1,a2,a3,a4,a5,a6] a:=cK;have qb:=Kz ae;have q8:=Kz (fun c (hc:c∈fa)=>o5 c (cO c hc));have q9:=Kz bX;have zb:=blk z0;clear E hG hE bB hS hN hb bH bq hx bL bR cB cK cO o9 ae oL bX;obtain⟨R1,U⟩:=nm (eX g t L G node by_ n a s);obtain⟨sO,q⟩:=nm (eX g t L G node by_ (n+1) ((8,q1,q2,q3,q4,q5,[a]):aA n) s);rw[←q];rw[GU,←U] at q;have HR:=Kz q;have uf:=Kz U;have uo:=Kz (fun p (h:R1=some p)=>lG lq.o T.o (U.symm.trans h));clear U q;go_in;go_wp2_with fail;obtain⟨B,hB⟩:=nm (W.alloc (.cells #[.int .i64 8,.int .i64 q1,.int .i64 q2,.int .i64 q3,.string q4,.string q5,.slice (some ⟨b,off,none⟩) 1 kq] 165));rw[←hB];have gB:Gr W B:=by rw[hB];exact gd
 have VB:=Kz (show az B W.heap.size 165 [.int .i64 8,.int .i64 q1,.int .i64 q2,.int .i64 q3,.string q4,.string q5,.slice (some ⟨b,off,none⟩) 1 kq] by rw[hB];exact az.new rfl);have ah:=Kz gB
 have dB:W.heap.size∉fp:=by
  obtain⟨s9,c9,h9,-⟩:=HS.o.core;exact fun hm=>Nat.lt_irrefl _ (h9.lt _ hm)
 have dS:=Kz dB;clear hB gB z0 z1 z2 z3 z4 z5 z6 zb dB;refine(ku.o a fa #[a0,a1,a2,a3,a4,a5,a6] fp (some s) B (Rd.gr qb.o ah.o) (ky.o.sub q8.o) (HS.o.grow ah.o) HN.o (fun s1 h1=>by obtain rfl:=Option.some.inj h1;exact⟨T.o,by have:=HB.o;omega⟩)).mono ?_;rintro e2 I ⟨v,f1,rfl,hv,V,ai,X⟩;rw[Option.bind_some,←uf.o] at V ai;have aj:=Kz V;have ak:=Kz ai;have dV:=Kz ((MvW.dm ah.o).trans X);have HV:=Kz hv;have fe:=Kz (X.row VB.o dS.o);have ik:=Kz (X.o VB.o.lt dS.o);obtain⟨s1,yc,au,-⟩:=V.core;have Y:=Kz au;obtain⟨y0,y1,y2,y3,y8⟩:=au.fixed;have zy:=blk y0;have x4:I.cell? ⟨W.heap.size,4,none⟩=some (.string q4):=fe.o.c 4;have x5:I.cell? ⟨W.heap.size,5,none⟩=some (.string q5):=fe.o.c 5;have zx:=blk x4;obtain⟨K,ax⟩:=nm (dQ t v);obtain⟨SY,ay⟩:=nm (zB g t K);have aZ:=Kz (show zB g t (dQ t v)=SY by rw[ay,ax])
 have uq:Ky (∀x:Ext,Qz 163 #[.agg #[.slice at_ t.length kt],.int .i64 v] (I.ext x) (.int .i64 K)):=Kz (fun x=>by
  rw[ax];obtain⟨ft,ht⟩:=HE.o.ht;exact iI t v _ (Rd.gr ht (Y.o.gr.trans gd)))
 have uz:Ky (∀x:Ext,Qz 68 #[.agg #[.slice ag0 g.1.length kg0,.slice ag1 g.2.length kg1],.agg #[.slice at_ t.length kt],.int .i64 K] (I.ext x) (.string SY)):=Kz (fun x=>by
  rw[ay];obtain⟨fg,hg⟩:=HE.o.hg;obtain⟨ft,ht⟩:=HE.o.ht;exact iC g t K _ (Rd.gr hg (Y.o.gr.trans gd)) (Rd.gr ht (Y.o.gr.trans gd)) HE.o.wg)
 clear V ai X hv au ax ay;go_wp2_with fail;refine wg ?_
 iterate 18 (go_big_quiet_step (first|(go_at_call 163;exact aG (uq.o _))|(go_at_call 68;exact aG (uz.o _))))
 refine wpQuiet_nil ?_
 intro _ ve
 obtain⟨nx,vB⟩:=ve;subst vB;go_wp2_with fail
 ·rename_i he
  have fu:=Kz (show¬SY=q4 from fun e=>by rw[e] at he;simp at he);go_ret;rw[HR.o];refine⟨0,f1,rfl,by decide,?_,?_,dV.o.gr gd⟩
  ·cases R1 with
   |none=>exact aj.o.grow gd
   |some p=>
    have J:=ak.o p rfl;rw[Option.bind_some,J,aZ.o,if_neg fu.o];exact aj.o.grow gd
  ·intro p hp
   cases R1 with
   |none=>cases hp
   |some p1=>
    have J:=ak.o p1 rfl;rw[Option.bind_some,J,aZ.o,if_neg fu.o] at hp;obtain rfl:=Option.some.inj hp;rfl
 ·have vD:=Kz (show SY=q4 from str_inj (by
   have he:(!(SY.toList==q4.toList))=false:=by assumption
   simpa using he))
  obtain⟨D,hD⟩:=nm (I.ext nx);rw[←hD];have gD:Gr I D:=by rw[hD];exact gd
  have d3:=gD.keep y3;have d5:=gD.keep x5;have vF:=Kz (aj.o.grow gD);have vG:=Kz (Y.o.grow gD);have vL:=Kz (dV.o.gr gD);have yu:=fun(w':World) (h:Wr f1 D w')=>h.aO d5 ik.o
  obtain⟨KX,Z⟩:=nm (gL L (v,q5));have vO:=Kz Z;have vR:=Kz (show KX<L.length by rw[Z];exact(kS _ _).1)
  have vX:=Kz (show sO=(R1.map (·.2)).bind fun s=>G s KX by_ by
   rw[HR.o]
   cases R1 with
   |none=>rfl
   |some p=>
    have J:=ak.o p rfl;rw[Option.bind_some,J,aZ.o,if_pos vD.o,←Z];rfl)
  have wF:=Kz (show∀s',R1.map (·.2)=some s'→s'.busy by_∧(s'.reads.getD (by_:Int).toNat []).length<2000 by
   intro s' wL
   obtain⟨p,hp,rfl⟩:=Option.map_eq_some_iff.1 wL;have k1:=uo.o p hp;refine⟨k1.still T.o.1,?_⟩;have k2:=k1.room T.o.1;have k3:=HB.o;simp only[Int.toNat_natCast] at k2 ⊢;omega)
  clear hD gD y0 y1 y2 y3 y8 zy x4 x5 zx Z;refine eB (fun w'=>Wr f1 D w'∧w'.cell? ⟨bz,3,none⟩=some (.slice aL L.length kL)) 12 (by kernel_rfl) (⟨(gd:Gr D D.drew).eF _,(gd:Gr D D.drew).keep d3⟩) (fun hU=>?_);refine aN 0 ?_;refine aN 1 ?_;refine aN 5 ?_;refine aN 6 ?_;refine aN 10 ?_;refine aN 2 ?_;refine aN 7 ?_;refine aN 3 ?_;refine aN 8 ?_;refine aN 4 ?_;refine dw [9] ?_;refine(bf.cons rfl (fun K O=>?_) bf.nil);go_simp
  go_at_call 38
  obtain⟨fl,hl⟩:=HE.o.hL;refine(nC L (v,q5) _ (hl.gr (vG.o.gr.trans gd)) (bZ v q5 HV.o q9.o)).mono ?_;rw[←vO.o];rintro e w' ⟨rfl,x2,rfl⟩;refine O.out _ _ ⟨(gd:Gr D (D.drew.ext x2)).eF _,(gd:Gr D (D.drew.ext x2)).keep d3⟩ (fun y5=>?_);clear O K
  try simp only[Act.put,uq1,uq2,uq3]
  refine dw [11] ?_
  refine(bf.cons rfl (fun K O=>?_) bf.nil);go_simp
  go_at_call 70
  refine(HG.o f1 (R1.map (·.2)) _ KX by_ (vF.o.grow gd) vR.o (.inr ⟨by have:=kr;omega,wF.o⟩)).mono ?_;rintro e w4 bg;have iw:=Kz (bg.lift (vL.o.gr gd) vX.o);obtain⟨v4,f4,rfl,w9,gF,xc,gT⟩:=bg;obtain⟨s4,c4,gV,-⟩:=gF.core;have e3:=gV.fixed.2.2.2.1;have gX:Wr f1 D w4:=((gd:Gr D (D.drew.ext x2)).eF _).trans gT.wr;have x9:=Kz gX;clear w9 gF xc gT gV gX;refine O.out _ _ ⟨x9.o,e3⟩ (fun y7=>?_);clear O K
  try simp only[Act.put,uq1,uq2,uq3]
  refine dw [12] ?_
  refine bf.last rfl (fun K O=>?_)
  go_simp;refine O.out _ _ ?_;clear O K
  try simp only[Act.put,uq1,uq2,uq3]
  refine fF (by kernel_rfl) ?_ _
  skip;go_wp2_with fail;go_ret;exact iw.o
end
end Go.Proofs.YtleafadpfeibfaaGreat
