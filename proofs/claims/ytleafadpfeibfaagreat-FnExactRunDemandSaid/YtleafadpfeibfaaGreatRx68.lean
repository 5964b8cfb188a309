/- Contracts and laws behind those of ReadsOf, part 4. No condition. -/
import Derived.Test.YtleafadpfeibfaaGreatRx67
import Derived.Test.YtleafadpfeibfaaGreatRx66
set_option maxHeartbeats 32000000
set_option maxRecDepth 10000
set_option linter.unusedVariables false
set_option linter.unusedSimpArgs false
namespace Go.Proofs.YtleafadpfeibfaaGreat
open Go.RowKit
open _root_.List (length_map)
open _root_.Nat (le_trans)
variable{d:Nat}
variable{fg ft fx:List Nat}
def BoxD(W:World)(vs:List Value)(s:Value)(wr:World):Prop:=∃h,s=.pointer (some ⟨h,0,none⟩)∧az wr h 57 vs∧W.heap.size≤h∧Gr W wr
theorem demS_any(g:af d)(t:List aT)(xs:List av){ag0:Option Addr}{kg0:Nat}{ag1:Option Addr}{kg1:Nat}{at_:Option Addr}{kt:Nat}{ax:Option Addr}{kx:Nat}(w:World)(hg:Rd.rd fg w [.slice ag0 g.1.length kg0,.slice ag1 g.2.length kg1] g)(ht:Rd.rd ft w [.slice at_ t.length kt] t)(hx:SlR fx w (.slice ax xs.length kx) xs)(bL:kT g t=true→xs.length≤1048576)(hl:aP g≤1048576)(sO:t.length≤1048576)(Y:gY t≤1048576):
  Calls Tryz.prog 30 #[.agg #[.slice ag0 g.1.length kg0,.slice ag1 g.2.length kg1],.agg #[.slice at_ t.length kt],.slice ax xs.length kx] w (MadeD w (demOf g t xs)):=by
 have HG:=Kz hg;have HT:=Kz ht;have HX:=Kz hx;have fe:=Kz hl;have uf:=Kz sO;have zg:=Kz Y;obtain⟨i2,fi,uo,uq,uz⟩:=info_parts Tryz.infoBoolD;have HZ:=Kz (And.intro fi (And.intro uo (And.intro uq uz)));clear hg ht hx hl sO Y fi uo uq uz
 by_cases I:kT g t=true
 ·replace bL:=bL I
  have fu:=Kz I;have bR:=Kz (show jI g from dx.1 (by unfold kT at I;simp at I;exact I.1));have ve:=Kz (show fP g t=true by unfold kT at I;simp at I;exact I.2);have gD:=Kz (show demOf g t xs=(match sW g t xs with|none=>([],[],[],0,true)|some s=>(bU g t,s.vals,s.st.map (fun x=>decide (x=2)),s.steps,false)) by unfold demOf;rw[if_pos I];all_goals(cases sW g t xs<;>rfl));clear I;have gT:=jX bR.o ve.o;go_in;go_wp2_with fail;refine(uW g t _ (Rd.gr HG.o gd) (Rd.gr HT.o gd) fe.o uf.o).mono ?_;rw[fu.o];rintro e B ⟨rfl,gB⟩;have T:=Kz (Gr.trans gd gB:Gr w B);have VG:=Kz (az.gr (az.new rfl:az (w.alloc (.cells #[.slice ag0 g.1.length kg0,.slice ag1 g.2.length kg1] 39)) w.heap.size 39 [.slice ag0 g.1.length kg0,.slice ag1 g.2.length kg1]) (Gr.trans gd gB:Gr _ B));have VT:=Kz (az.gr (az.new (by simp):az ((w.alloc (.cells #[.slice ag0 g.1.length kg0,.slice ag1 g.2.length kg1] 39)).alloc (.cells #[.slice at_ t.length kt] 43)) (w.heap.size+1) 43 [.slice at_ t.length kt]) (Gr.trans gd gB:Gr _ B));have VD:=Kz (az.gr (az.new (by simp):az (((w.alloc (.cells #[.slice ag0 g.1.length kg0,.slice ag1 g.2.length kg1] 39)).alloc (.cells #[.slice at_ t.length kt] 43)).alloc (.cells #[.slice none 0 0,.slice none 0 0,.slice none 0 0,.int .i64 0,.bool false] 57)) (w.heap.size+1+1) 57 [.slice none 0 0,.slice none 0 0,.slice none 0 0,.int .i64 0,.bool false]) (Gr.trans gd gB:Gr _ B));obtain⟨d0,d1⟩:=VG.o.c2;have d2:B.cell? ⟨w.heap.size+1,0,none⟩=some (.slice at_ t.length kt):=VT.o.c 0;have zd:=blk d0;have zl:=blk d2;clear gB;go_wp2_with fail;refine(GN g t xs _ (Rd.gr HG.o (tg T)) (Rd.gr HT.o (tg T)) (HX.o.gr (tg T)) bL fe.o zg.o bR.o ve.o).mono ?_;rintro e Z ⟨w1,aL,kL,bz,bv,bs,br,fp,rfl,g1,⟨fl,gV,vB⟩,gX⟩;have ik:=Kz (Gr.trans gd g1:Gr B w1);obtain⟨L,hL⟩:=nm (bU g t);rw[←hL] at gV gX gT gD;have bX:=Kz gV;have iw:=Kz vB;obtain⟨s,cyc,hc,q8⟩:=gX.core;have J:=Kz hc;have cB:=Kz (ik.o.trans hc.gr);have ah:=Kz gT;have c3:Z.cell? ⟨bz,3,none⟩=some (.slice aL L.length kL):=hc.hz.c 3;have c4:Z.cell? ⟨bz,4,none⟩=some (.slice (some ⟨bv,0,none⟩) L.length L.length):=hc.hz.c 4;have c5:Z.cell? ⟨bz,5,none⟩=some (.slice (some ⟨bs,0,none⟩) L.length L.length):=hc.hz.c 5;have c7:Z.cell? ⟨bz,7,none⟩=some (.int .i64 s.steps):=hc.hz.c 7;have c8:Z.cell? ⟨bz,8,none⟩=some (.bool cyc):=hc.hz.c 8;have zc:=blk c8;have X:=Kz (VD.o.gr cB.o);obtain⟨e0,e1,e2,e3,e4⟩:=X.o.c5;have r0:=X.o.frozen;have kr:=blk e0;clear d0 d1 d2 zd zl g1 gV vB gX hc hL gT;rcases q8 with⟨ae,rfl,vD⟩|⟨ae,rfl⟩
  ·have ai:=Kz (show demOf g t xs=(L,s.vals,s.st.map (fun x=>decide (x=2)),s.steps,false) by rw[gD.o,ae])
   have vG:=Kz vD;clear ae vD;go_wp2_with fail
   go_cut [8] (fun s8 wr=>BoxD Z [.slice aL L.length kL,.slice (some ⟨bv,0,none⟩) L.length L.length,.slice none 0 0,.int .i64 s.steps,.bool false] s8 wr)
   case first=>
    go_region
    all_goals
     go_wp2_with fail;go_meet;exact⟨_,rfl,(az.new (by first|rfl|simp)).gr gd,by first|exact Nat.le_refl _|simp,gd⟩
   case rest=>
    obtain⟨U,rfl,ku,vL,ak⟩:=hcut
    rename World=>V
    have aj:=Kz ak;have zn:=Kz ku;have zo:=Kz vL;obtain⟨q,cK⟩:∃K:List Bool,K=s.st.map (fun x=>decide (x=2)):=⟨_,rfl⟩;rw[←cK] at ai;have cO:=Kz (show q.length=L.length by rw[cK,length_map];exact J.o.sl)
    have vO:=Kz (fun i (h:i<L.length)=>show V.cell? ⟨bs,i,none⟩=some (.int .i64 ((s.st.getD i 0:Nat):Int)) from ak.keep (by
     have h1:i<s.st.length:=by rw[J.o.sl];exact h
     have h2:=J.o.hs.cell (k:=i) (by simpa using h1);rw[h2];rw[getD_at h1];simp))
    have zq:=Kz (show∀i (h:i<L.length),q.getD i false=decide (s.st.getD i 0=2) from fun i h=>by
     have h1:i<s.st.length:=by rw[J.o.sl];exact h
     rw[cK,getD_at (by simpa using h1),getD_at h1];simp)
    have g3:=Kz (ak.keep c3);have g5:=Kz (ak.keep c5);have zu:=blk c3;have zs:bs<Z.heap.size:=J.o.hs.lt;have NZ:=Kz (show bz≠U by omega);have NS:=Kz (show bs≠U by omega);have NR:=Kz (show w.heap.size+1+1≠U by omega);have zx:=Kz (show U<V.heap.size from ku.lt);clear ak ku vL cK c3 c4 c5 c7 c8 zc e0 e1 e2 e3 e4 r0 kr zu zs;go_wp2_with fail
    go_loopw [9] (fun s9 wr=>∃(i:Nat) (v:Value) (fps:List (List Nat)),i≤L.length∧Ky (az wr U 57 [.slice aL L.length kL,.slice (some ⟨bv,0,none⟩) L.length L.length,v,.int .i64 s.steps,.bool false])∧Ky (Wr [U] V wr)∧Ky (fps.flatten=[])∧bE (α:=Bool) V 4 wr v fps (q.take i)∧s9=.int .i64 i) (fun s9 _=>L.length - (intOf s9).toNat)
    case atStart=>exact⟨0,_,[],by omega,zn,Kz (Wr.refl _ _),Kz rfl,bE.nil _ _ _,rfl⟩
    case round=>
     obtain⟨i,v,fps,hi,HV,HW,HF,hown,rfl⟩:=hrel
     rename World=>D
     obtain⟨ra,rc,q9⟩:=hown.form;subst q9;have HO:=Kz hown;have vR:=hown.base;have vX:=Kz (show∀b∈(Value.slice ra (q.take i).length rc).ownBlock.toList,V.heap.size≤b from fun b hb=>(vR b (by simpa using hb)).1);have a3:=HW.o.aO g3.o (by simpa using NZ.o);have a5:=HW.o.aO g5.o (by simpa using NZ.o);have za:=blk a3;have au:(q.take i).length=i:=by rw[List.length_take,cO.o];omega
     clear hown vR
     by_cases Y:i<L.length
     ·have b1:=HW.o.aO (vO.o i Y) (by simpa using NS.o)
      have zb:=blk b1;have IV:(0:Int)≤(i:Int):=by omega
      have KX:(i:Int)<(L.length:Int):=by omega
      have K3:IntKind.i64.wrap ((i:Int)+1)=(i:Int)+1:=IntWalk.i64_in _ (by have:=ah.o;omega);have v2:D.cell? ⟨U,2,none⟩=some (.slice ra (q.take i).length rc):=HV.o.c 2;have f2:=HV.o.frozen 2;have zv:=blk v2;have zy:=Kz (show Gr (D.first V.heap.size) D from gr_fst HW.o.size);have zH:=Kz (show(D.first V.heap.size).heap.size=V.heap.size from size_fst HW.o.size);have wF:=Kz (zq.o i Y);obtain⟨y,hy⟩:=nm (s.st.getD i 0);rw[←hy] at b1 wF;obtain⟨KB,ky⟩:∃b:Bool,b=decide ((y:Int)=2):=⟨_,rfl⟩;have zL:=Kz (show q.getD i false=KB by rw[wF.o,ky];by_cases h:y=2<;>simp[h]<;>omega);have H5:((y:Int)==2)=KB:=by rw[ky];by_cases h:(y:Int)=2<;>simp[h]
      have K4:=HZ.o.1;obtain⟨M,hM⟩:=nm (q.take i);rw[←hM] at v2 HV HO vX au;have HM:=Kz hM;obtain⟨LS,lq⟩:=nm ((Value.slice ra M.length rc).ownBlock.toList);have oH:=Kz lq
      have O:=Kz (show∀b∈LS,b≠U∧V.heap.size≤b from fun b hb=>by
       rw[lq] at hb;have h1:=vX.o b hb;have h2:=zx.o;exact⟨by omega,h1⟩)
      have zO:=fun(w':World) (h:Wr LS D w')=>h.aO a3 (fun hm=>by have h1:=(O.o _ hm).2;have h2:=blk g3.o;omega)
      have z8:=fun(w':World) (h:Wr LS D w')=>h.aO a5 (fun hm=>by have h1:=(O.o _ hm).2;have h2:=blk g5.o;omega)
      have A7:=fun(w':World) (h:Wr LS D w')=>h.aO b1 (fun hm=>by have h1:=(O.o _ hm).2;have h2:=blk (vO.o i Y);omega)
      have wL:=fun(w':World) (h:Wr LS D w')=>h.aO v2 (fun hm=>(O.o _ hm).1 rfl)
      have xc:=fun(w':World) (h:Wr LS D w')=>h.vZ f2 zv (fun hm=>(O.o _ hm).1 rfl)
      have oL:=Kz au;clear hy ky hM lq au;go_wp2_with fail;refine eB (fun w'=>Wr LS D w') 13 (by kernel_rfl) (((Gr.drew (Gr.refl D)).eF _)) (fun hU=>?_);refine aN 0 ?_;refine aN 2 ?_;refine aN 6 ?_;refine aN 1 ?_;refine aN 3 ?_;refine aN 4 ?_;refine aN 5 ?_;refine aN 7 ?_;refine aN 8 ?_;refine aN 9 ?_;refine dw [10] ?_;refine(bf.cons rfl (fun K hK=>?_) bf.nil);go_simp;refine hK.out _ _ ((gd:Gr D ((D.alloc (.cells #[.bool KB] 4)).drew)).eF _) (fun BM=>?_);clear hK K
      try simp only[Act.put,uq1,uq2,uq3]
      refine dw [11] ?_
      refine(bf.cons rfl (fun K hK=>?_) bf.nil);refine gU (α:=Bool) (wg:=D.first V.heap.size) (w0:=V) (tg zy) (by rw[zH.o];exact Nat.le_refl _) (le_trans HW.o.size (Gr.size gd)) (by rfl) _ _ _ (by rfl) 4 i2 (.bool false) 1 Tryz.underlying55 HZ.o.1 HZ.o.2.1 HZ.o.2.2.1 HZ.o.2.2.2 rfl (.slice ra M.length rc) fps _ (by rfl) (HO.o.gr gd) _ [[]] [KB] (by rfl) ((eT.one (w:=D) (g:=D.heap.size) rfl (⟨rfl,rfl⟩:Rd.rd [] _ [.bool KB] KB)).gr gd) (fun b _=>by simp) (by have:=ah.o;rw[oL.o];unfold maxLen;simp;omega) (by have:=ah.o;rw[oL.o];simp;omega) ?_;intro v9 w9 k1 k2 k3 k4
      have dB:Wr LS D w9:=by rw[oH.o];exact Wr.trans (Gr.eF (gd) _) k2
      have x9:∀n,v9.ownBlock=some n→n≠U:=fun n hn=>by
       rcases k3 with h|h
       ·rw[hn] at h
        exact(O.o n (by rw[oH.o,←h];simp)).1
       ·rw[hn] at h
        injection h with h;have:D.heap.size≤n:=by rw[h];exact Gr.size (gd)
        omega
      have yc:=Kz x9;obtain⟨va,vc,rfl⟩:=k1.form;obtain⟨M9,o5⟩:=nm (M++[KB]);rw[←o5] at k1 yc ⊢
      have EB:=Kz (show M9=q.take (i+1) by
       have h1:i<q.length:=by rw[cO.o];exact Y
       rw[o5,HM.o,List.take_succ_eq_append_getElem h1,←zL.o,getD_at h1])
      have yu:=Kz k1;have dS:=Kz dB;have d9:=wL w9 dB;have f9:=xc w9 dB;have z9:=blk d9;clear k1 k2 k3 k4 dB x9 o5;refine hK.out _ _ dS.o (fun E5=>?_);clear hK K
      try simp only[Act.put,uq1,uq2,uq3]
      refine aN 12 ?_
      refine dw [13] ?_
      refine bf.last rfl (fun K hK=>?_)
      go_simp;refine hK.out _ _ ?_;clear hK K
      try simp only[Act.put,uq1,uq2,uq3]
      refine fF (by kernel_rfl) ?_ _
      skip;obtain⟨WX,ay⟩:=nm (w9.setCell ⟨U,2,none⟩ (.slice va M9.length vc));rw[←ay];have FX:=Kz (show az WX U 57 [.slice aL L.length kL,.slice (some ⟨bv,0,none⟩) L.length L.length,.slice va M9.length vc,.int .i64 s.steps,.bool false] by rw[ay];exact(HV.o.wr dS.o (fun hm=>(O.o _ hm).1 rfl)).set 2 _);have F4:=Kz (show Wr [U] V WX by rw[ay];exact(HW.o.new dS.o (fun x hx=>(O.o x hx).2)).setCell (by simp) _);have y5:=Kz (show(fps++[[]]).flatten=[] by rw[List.flatten_append,HF.o];rfl)
      have F5:=Kz (show bE (α:=Bool) V 4 WX (.slice va M9.length vc) (fps++[[]]) (q.take (i+1)) by
       rw[←EB.o];rw[ay];exact yu.o.wr ((Wr.refl [U] w9).setCell (by simp) _) (fun b hb=>by rw[y5.o] at hb;simp at hb) (fun b hb hm=>yc.o b hb (by simpa using hm)))
      clear ay a3 a5 b1 v2 f2 zv zO z8 A7 wL xc d9 f9 z9 BM E5 dS yu;go_wp2_with fail;exact⟨⟨i+1,_,fps++[[]],by omega,FX,F4,y5,F5.o,by go_num⟩,by simp[intOf];omega⟩
     ·obtain rfl:i=L.length:=by omega
      have y7:q.take L.length=q:=by rw[←cO.o];exact List.take_length
      rw[y7] at HO HV au;have o9:=Kz (((X.o.gr aj.o).wr HW.o (by simpa using NR.o)));obtain⟨e0,e1,e2,e3,e4⟩:=o9.o.c5;have r0:=o9.o.frozen;have kr:=blk e0;obtain⟨b0,b1,b2,b3,b4⟩:=HV.o.c5;have K6:=blk b0;obtain⟨fk,y8,y9⟩:=HO.o.slR (by rw[cO.o];have:=ah.o;unfold bn;omega);have F6:=Kz y8;have ze:=Kz y9;clear y8 y9 au y7;go_wp2_with fail;generalize hF:((((D.setCell ⟨w.heap.size+1+1,0,none⟩ (.slice aL L.length kL)).setCell ⟨w.heap.size+1+1,1,none⟩ (.slice (some ⟨bv,0,none⟩) L.length L.length)).setCell ⟨w.heap.size+1+1,2,none⟩ (.slice ra q.length rc)).setCell ⟨w.heap.size+1+1,3,none⟩ (.int .i64 s.steps)).setCell ⟨w.heap.size+1+1,4,none⟩ (.bool false)=WF;have vF:az WF (w.heap.size+1+1) 57 [.slice aL L.length kL,.slice (some ⟨bv,0,none⟩) L.length L.length,.slice ra q.length rc,.int .i64 s.steps,.bool false]:=by rw[←hF];exact az.pt5 o9.o _ _ _ _ _
      have dV:Wr [w.heap.size+1+1] D WF:=by rw[←hF];exact Wr.pt5 _ _ _ _ _ _ _
      have La:=VD.o.lt;have Li:=ik.o.size;have Lj:=cB.o.size;have Lm:=aj.o.size;have Ls:=zo.o;have gF:Gr w WF:=((T.o.trans (cB.o.trans aj.o)).wr HW.o (fun b hb=>by have:=T.o.size;simp at hb;omega)).wr dV (fun b hb=>by simp at hb;omega);obtain⟨aZ,bg,bq,bB,bH⟩:=vF.c5;have hb:∀b,B.heap.size≤b→b<Z.heap.size→b∉[U]∧b∉[w.heap.size+1+1]:=fun b h1 h2=>⟨by simp;omega,by simp;omega⟩
      have s0:SlR fl WF (.slice aL L.length kL) L:=(((bX.o.gr J.o.gr).gr aj.o).wr HW.o (fun b hm=>(hb b (iw.o.2 b hm) (Nat.lt_of_lt_of_le (bX.o.lt b hm) J.o.gr.size)).1)).wr dV (fun b hm=>(hb b (iw.o.2 b hm) (Nat.lt_of_lt_of_le (bX.o.lt b hm) J.o.gr.size)).2);obtain⟨fv,zf,qb⟩:=(show jZ D bv 3 s.vals from az.wr (az.gr J.o.hv aj.o) HW.o (by have:=J.o.hv.lt;simp;omega)).sl (by rw[J.o.vl];have:=ah.o;unfold bn;omega) J.o.wf;rw[J.o.vl] at zf;have F8:=J.o.ge bv J.o.mem.2.1;have s1:SlR fv WF (.slice (some ⟨bv,0,none⟩) L.length L.length) s.vals:=zf.wr dV (fun b hm=>by rcases qb with rfl|rfl<;>simp at hm;subst hm;simp;omega)
      have s2:SlR fk WF (.slice ra q.length rc) q:=F6.o.wr dV (fun b hm=>by
       rcases ze.o with⟨_,e⟩|⟨c,e1,e2⟩
       ·rw[e] at hm;simp at hm
       ·rw[e2,HF.o] at hm
        have:=(HO.o.base c e1).1;simp at hm ⊢;omega)
      have Ha:(Lit.int .i64 s.steps).wf=true:=jm (by rw[vG.o.stp];omega) (by rw[vG.o.stp];have:=vU 2 s.st;have:=J.o.sl;have:=ah.o;omega)
      have He:aY w (fl++(fv++(fk++([]++[])))):=(iw.o.of_le T.o.size).append (T.o.trans ik.o).size bX.o.lt ((aY.of_flat qb F8).append (w1:=V) (J.o.gr.trans aj.o).size (fun b hm=>by
       have:=J.o.hv.lt;rcases qb with rfl|rfl<;>simp at hm
       omega) (by
       rcases ze.o with⟨_,e⟩|⟨c,e1,e2⟩
       ·rw[e];exact aY.nil _
       ·rw[e2,HF.o];exact aY.cons (HO.o.base c e1).1))
      exact bodyPost_ret (v:=.agg #[.slice aL L.length kL,.slice (some ⟨bv,0,none⟩) L.length L.length,.slice ra q.length rc,.int .i64 s.steps,.bool false]) (by simp[results,Tryz.results30,go_sem,aZ,bg,bq,bB,bH]) rfl ⟨_,_,rfl,by rw[ai.o];exact rdDemand_mk L s.vals q s.steps false s0 s1 s2 Ha,He,gF⟩
  ·have ai:=Kz (show demOf g t xs=([],[],[],0,true) by rw[gD.o,ae])
   clear ae c3 c4 c5 c7;go_wp2_with fail;generalize hF:((((Z.setCell ⟨w.heap.size+1+1,0,none⟩ (.slice none 0 0)).setCell ⟨w.heap.size+1+1,1,none⟩ (.slice none 0 0)).setCell ⟨w.heap.size+1+1,2,none⟩ (.slice none 0 0)).setCell ⟨w.heap.size+1+1,3,none⟩ (.int .i64 0)).setCell ⟨w.heap.size+1+1,4,none⟩ (.bool true)=WF;have vF:az WF (w.heap.size+1+1) 57 [.slice none 0 0,.slice none 0 0,.slice none 0 0,.int .i64 0,.bool true]:=by rw[←hF];exact az.pt5 X.o _ _ _ _ _
   have gF:Gr w WF:=by rw[←hF];exact Gr.pt5 (T.o.trans cB.o) (by omega) _ _ _ _ _
   obtain⟨aZ,bg,bq,bB,bH⟩:=vF.c5;exact bodyPost_ret (v:=.agg #[.slice none 0 0,.slice none 0 0,.slice none 0 0,.int .i64 0,.bool true]) (by simp[results,Tryz.results30,go_sem,aZ,bg,bq,bB,bH]) rfl ⟨_,_,rfl,by rw[ai.o];exact rdDemand_mk [] [] [] 0 true (SlR.nil _) (SlR.nil _) (SlR.nil _) (by decide),by simpa using aY.nil _,gF.trans gd⟩
 ·clear bL
  have HR:=Kz (show demOf g t xs=([],[],[],0,false) by unfold demOf;rw[if_neg I]);have fu:=Kz (show kT g t=false from eq_false_of_ne_true I);clear I;go_in;go_wp2_with fail;refine(uW g t _ (Rd.gr HG.o gd) (Rd.gr HT.o gd) fe.o uf.o).mono ?_;rw[fu.o];rintro e B ⟨rfl,gB⟩;have T:=Kz (Gr.trans gd gB:Gr w B);have X:=Kz (az.gr (az.new (by simp):az (((w.alloc (.cells #[.slice ag0 g.1.length kg0,.slice ag1 g.2.length kg1] 39)).alloc (.cells #[.slice at_ t.length kt] 43)).alloc (.cells #[.slice none 0 0,.slice none 0 0,.slice none 0 0,.int .i64 0,.bool false] 57)) (w.heap.size+1+1) 57 [.slice none 0 0,.slice none 0 0,.slice none 0 0,.int .i64 0,.bool false]) (Gr.trans gd gB:Gr _ B));obtain⟨Z,HY⟩:=nm (B);subst HY;have ai:=HR;obtain⟨e0,e1,e2,e3,e4⟩:=X.o.c5;have r0:=X.o.frozen;have kr:=blk e0;clear gB;go_wp2_with fail;generalize hF:((((Z.setCell ⟨w.heap.size+1+1,0,none⟩ (.slice none 0 0)).setCell ⟨w.heap.size+1+1,1,none⟩ (.slice none 0 0)).setCell ⟨w.heap.size+1+1,2,none⟩ (.slice none 0 0)).setCell ⟨w.heap.size+1+1,3,none⟩ (.int .i64 0)).setCell ⟨w.heap.size+1+1,4,none⟩ (.bool false)=WF;have vF:az WF (w.heap.size+1+1) 57 [.slice none 0 0,.slice none 0 0,.slice none 0 0,.int .i64 0,.bool false]:=by rw[←hF];exact az.pt5 X.o _ _ _ _ _
  have gF:Gr w WF:=by rw[←hF];exact Gr.pt5 T.o (by omega) _ _ _ _ _
  obtain⟨aZ,bg,bq,bB,bH⟩:=vF.c5;exact bodyPost_ret (v:=.agg #[.slice none 0 0,.slice none 0 0,.slice none 0 0,.int .i64 0,.bool false]) (by simp[results,Tryz.results30,go_sem,aZ,bg,bq,bB,bH]) rfl ⟨_,_,rfl,by rw[ai.o];exact rdDemand_mk [] [] [] 0 false (SlR.nil _) (SlR.nil _) (SlR.nil _) (by decide),by simpa using aY.nil _,gF.trans gd⟩
theorem demI_any(g:af d)(t:List aT)(xs:List av){ag0:Option Addr}{kg0:Nat}{ag1:Option Addr}{kg1:Nat}{at_:Option Addr}{kt:Nat}{ax:Option Addr}{kx:Nat}(w:World)(hg:Rd.rd fg w [.slice ag0 g.1.length kg0,.slice ag1 g.2.length kg1] g)(ht:Rd.rd ft w [.slice at_ t.length kt] t)(hx:SlR fx w (.slice ax xs.length kx) xs)(bB:kT g t=true→xs.length≤1048576)(hl:aP g≤1048576)(T:gY t≤1048576):
  Calls Tryz.prog 32 #[.agg #[.slice ag0 g.1.length kg0,.slice ag1 g.2.length kg1],.agg #[.slice at_ t.length kt],.slice ax xs.length kx] w (MadeD w (demOf g t xs)):=by
 have HG:=Kz hg;have HT:=Kz ht;have HX:=Kz hx;have bH:=Kz hl;have uo:=Kz T;clear hg ht hx hl T
 by_cases D:kT g t=true
 ·replace bB:=bB D
  have V:=Kz (show jI g from dx.1 (by unfold kT at D;simp at D;exact D.1));have bL:=Kz (show fP g t=true by unfold kT at D;simp at D;exact D.2);have bR:=Kz (show demOf g t xs=(match sW g t xs with|none=>([],[],[],0,true)|some s=>(bU g t,s.vals,s.st.map (fun x=>decide (x=2)),s.steps,false)) by unfold demOf;rw[if_pos D];all_goals(cases sW g t xs<;>rfl));clear D;have uq:=jX V.o bL.o;go_in;go_wp2_with fail;obtain⟨B,hB⟩:=nm (((w.alloc (.cells #[.slice ag0 g.1.length kg0,.slice ag1 g.2.length kg1] 39)).alloc (.cells #[.slice at_ t.length kt] 43)).alloc (.cells #[.slice none 0 0,.slice none 0 0,.slice none 0 0,.int .i64 0,.bool false] 57));rw[←hB];have gB:Gr w B:=by rw[hB];exact gd
  have U:=Kz gB;have VD:=Kz (show az B (w.heap.size+1+1) 57 [.slice none 0 0,.slice none 0 0,.slice none 0 0,.int .i64 0,.bool false] by rw[hB];exact az.new (by simp));clear hB gB;refine(AU g t _ (Rd.gr HG.o U.o) (Rd.gr HT.o U.o) bH.o V.o bL.o).mono ?_;rintro e W2 ⟨w1,aL,kL,bz,bv,bk,bs,br,fp,rfl,g1,⟨fl,au,gX⟩,hc⟩;have Y:=Kz (U.o.trans g1);have ik:=Kz g1;obtain⟨L,hL⟩:=nm (bU g t);rw[←hL] at au hc bR uq;have HL:=Kz hL;have iw:=Kz au;have kr:=Kz gX;have HE:=Kz (show EnvD w1 g t L ag0 kg0 ag1 kg1 at_ kt aL kL from⟨⟨fg,Rd.gr HG.o Y.o⟩,⟨ft,Rd.gr HT.o Y.o⟩,⟨fl,au⟩,V.o,bL.o,hL,bH.o,uo.o⟩);have uf:=Kz (Dy (bz:=bz) (bv:=bv) (bk:=bk) (bs:=bs) (br:=br) HE.o L.length)
  have uz:=Kz (show ImS w1 (.slice ag0 g.1.length kg0) (.slice ag1 g.2.length kg1) (.slice at_ t.length kt) (.slice aL L.length kL) L L.length bz bv bk bs br L.length fp (sW g t []) W2 from by
   rw[show sW g t []=some (Eng.new L.length) by rw[hL];rfl];exact⟨hc,EE _⟩)
  clear g1 au gX hc hL;go_simp;go_wp2_with fail
  go_loopw [22] (fun cB wr=>∃(i:Nat) (fp:List Nat),i≤xs.length∧Ky (ImS w1 (.slice ag0 g.1.length kg0) (.slice ag1 g.2.length kg1) (.slice at_ t.length kt) (.slice aL L.length kL) L L.length bz bv bk bs br L.length fp (sW g t (xs.take i)) wr)∧cB=.int .i64 i) (fun cB _=>xs.length - (intOf cB).toNat)
  case atStart=>exact⟨0,fp,by omega,uz,rfl⟩
  case round=>
   obtain⟨i,f3,hi,ay,rfl⟩:=hrel
   rename World=>J
   by_cases T:i<xs.length
   ·obtain⟨s3,xc,ku,-⟩:=ay.o.core
    obtain⟨a9,k9,cK,ve,vB,ky⟩:=HX.o.open;injection cK with cK _ vD;subst cK;subst vD;obtain⟨bX,oX,rfl,x9⟩:=ky i T;obtain⟨i0,i1,cO,dB⟩:=SlR.iX HX.o T;obtain⟨X,lq⟩:=nm (xs[i]);have dS:=Kz (Fq (g:=g) (t:=t) T);rw[←lq] at i0 i1 cO dB dS;obtain⟨x0,x1⟩:=X;have dV:Gr w J:=Y.o.trans ku.gr;have j0:=dV.keep i0;have j1:=dV.keep i1;simp only at j0 j1;have zj:=blk j0;have HW:=Kz (And.intro cO dB);have n0:(0:Int)≤(i:Int):=by omega
    have n1:(i:Int)<(xs.length:Int):=by omega
    have yc:=zI1 i (by omega);rw[←HL.o] at dS;clear ku ve vB ky i0 i1 cO dB lq dV;go_wp2_with fail;refine(uf.o f3 (sW g t (xs.take i)) _ (x0,x1) (-1) HW.o.1 HW.o.2 (ay.o.grow gd) (.inl (by decide))).mono ?_;rintro e W4 ⟨v4,f4,rfl,-,fe,-,-⟩;rw[←dS.o] at fe;have vG:=Kz fe;clear fe;go_wp2_with fail;exact⟨⟨i+1,f4,by omega,Kz (vG.o.grow gd),by go_num⟩,by simp[intOf];omega⟩
   ·obtain rfl:i=xs.length:=by omega
    rw[List.take_length] at ay;obtain⟨s,cyc,I,gV⟩:=ay.o.core;have q:=Kz I;have c3:J.cell? ⟨bz,3,none⟩=some (.slice aL L.length kL):=I.hz.c 3;have c4:J.cell? ⟨bz,4,none⟩=some (.slice (some ⟨bv,0,none⟩) L.length L.length):=I.hz.c 4;have c5:J.cell? ⟨bz,5,none⟩=some (.slice (some ⟨bk,0,none⟩) L.length L.length):=I.hz.c 5;have c8:J.cell? ⟨bz,8,none⟩=some (.int .i64 s.steps):=I.hz.c 8;have c9:J.cell? ⟨bz,9,none⟩=some (.bool cyc):=I.hz.c 9;have zc:=blk c9;have oH:=Kz (Y.o.trans I.gr);have aZ:=Kz (VD.o.gr (ik.o.trans I.gr));obtain⟨d0,d1,d2,d3,d4⟩:=aZ.o.c5;have r0:=aZ.o.frozen;have zd:=blk d0;rcases gV with⟨O,rfl,oL⟩|⟨O,rfl⟩
    ·have fu:=Kz (show demOf g t xs=(L,s.vals,s.st.map (fun x=>decide (x=2)),s.steps,false) by rw[bR.o,O])
     have o5:=Kz oL;have k3:=fun(w':World) (h:Gr J w')=>(⟨h.keep c3,h.keep c4,h.keep c5,h.keep c8⟩:_∧_∧_∧_)
     clear I O oL;go_wp2_with fail;refine eB (fun w'=>Gr J w') 17 (by kernel_rfl) ((Gr.drew (Gr.refl J))) (fun hU=>?_);refine aN 0 ?_;refine aN 4 ?_;refine aN 8 ?_;refine aN 12 ?_;refine aN 1 ?_;refine aN 5 ?_;refine aN 9 ?_;refine aN 13 ?_;refine aN 2 ?_;refine aN 6 ?_;refine aN 10 ?_;refine aN 14 ?_;refine aN 3 ?_;refine aN 7 ?_;refine aN 11 ?_;refine aN 15 ?_;refine aN 16 ?_;refine dw [17] ?_;refine bf.last rfl (fun K hK=>?_);go_simp;refine hK.out _ _ ?_;clear hK K
     try simp only[Act.put,uq1,uq2,uq3]
     refine fF (by kernel_rfl) ?_ _
     skip;go_wp2_with fail;generalize Z:((((J.setCell ⟨w.heap.size+1+1,0,none⟩ (.slice aL L.length kL)).setCell ⟨w.heap.size+1+1,1,none⟩ (.slice (some ⟨bv,0,none⟩) L.length L.length)).setCell ⟨w.heap.size+1+1,2,none⟩ (.slice (some ⟨bk,0,none⟩) L.length L.length)).setCell ⟨w.heap.size+1+1,3,none⟩ (.int .i64 s.steps)).setCell ⟨w.heap.size+1+1,4,none⟩ (.bool false)=WF;have vF:az WF (w.heap.size+1+1) 57 [.slice aL L.length kL,.slice (some ⟨bv,0,none⟩) L.length L.length,.slice (some ⟨bk,0,none⟩) L.length L.length,.int .i64 s.steps,.bool false]:=by rw[←Z];exact az.pt5 aZ.o _ _ _ _ _
     have bg:Wr [w.heap.size+1+1] J WF:=by rw[←Z];exact Wr.pt5 _ _ _ _ _ _ _
     have gF:Gr w WF:=oH.o.wr bg (fun b hb=>by simp at hb;omega);have yu:=VD.o.lt;have y5:=ik.o.size;have vL:=U.o.size;obtain⟨ae,ah,ai,aj,ak⟩:=vF.c5;have s0:SlR fl WF (.slice aL L.length kL) L:=(iw.o.gr q.o.gr).wr bg (fun b hm hx=>by have:=kr.o.2 b hm;simp at hx;omega);have vO:=q.o.ge bv q.o.mem.2.1;have vR:=q.o.ge bk q.o.mem.2.2.1
     have vX:bv≠bk:=by
      obtain⟨fps,-,-,-,e⟩:=q.o.hr;have h:=q.o.nd;rw[e] at h;intro hh
      subst hh;simp at h
     obtain⟨fv,o9,qb⟩:=(show jZ J bv 3 s.vals from q.o.hv).sl (by rw[q.o.vl];unfold bn;omega) q.o.wf;rw[q.o.vl] at o9;have s1:SlR fv WF (.slice (some ⟨bv,0,none⟩) L.length L.length) s.vals:=o9.wr bg (fun b hm=>by rcases qb with rfl|rfl<;>simp at hm;subst hm;simp;omega);obtain⟨bq,gD⟩:∃K:List Bool,K=s.st.map (fun x=>decide (x=2)):=⟨_,rfl⟩;have q8:bq.length=L.length:=by rw[gD,length_map];exact q.o.sl
     obtain⟨fk,q9,sO⟩:=(show az J bk 4 (bq.map Value.bool) from by rw[gD,List.map_map];exact q.o.hk).bools (by rw[q8];unfold bn;omega);rw[q8] at q9;have s2:SlR fk WF (.slice (some ⟨bk,0,none⟩) L.length L.length) bq:=q9.wr bg (fun b hm=>by rcases sO with rfl|rfl<;>simp at hm;subst hm;simp;omega);have wF:(Lit.int .i64 s.steps).wf=true:=jm (by rw[o5.o.stp];omega) (by rw[o5.o.stp];have:=vU 2 s.st;have:=q.o.sl;omega)
     have wL:aY w (fl++(fv++(fk++([]++[])))):=(kr.o.of_le vL).append Y.o.size iw.o.lt (by
      rcases qb with rfl|rfl<;>rcases sO with rfl|rfl<;>refine⟨?_,?_⟩<;>simp<;>first|omega|exact vX|exact⟨vO,vR⟩)
     exact bodyPost_ret (v:=.agg #[.slice aL L.length kL,.slice (some ⟨bv,0,none⟩) L.length L.length,.slice (some ⟨bk,0,none⟩) L.length L.length,.int .i64 s.steps,.bool false]) (by simp[results,Tryz.results32,go_sem,ae,ah,ai,aj,ak]) rfl ⟨_,_,rfl,by rw[fu.o,←gD];exact rdDemand_mk L s.vals bq s.steps false (s0.gr gd) (s1.gr gd) (s2.gr gd) wF,wL,gF.trans gd⟩
    ·have fu:=Kz (show demOf g t xs=([],[],[],0,true) by rw[bR.o,O])
     clear I O c3 c4 c5 c8;go_wp2_with fail;generalize Z:((((J.setCell ⟨w.heap.size+1+1,0,none⟩ (.slice none 0 0)).setCell ⟨w.heap.size+1+1,1,none⟩ (.slice none 0 0)).setCell ⟨w.heap.size+1+1,2,none⟩ (.slice none 0 0)).setCell ⟨w.heap.size+1+1,3,none⟩ (.int .i64 0)).setCell ⟨w.heap.size+1+1,4,none⟩ (.bool true)=WF;have vF:az WF (w.heap.size+1+1) 57 [.slice none 0 0,.slice none 0 0,.slice none 0 0,.int .i64 0,.bool true]:=by rw[←Z];exact az.pt5 aZ.o _ _ _ _ _
     have gF:Gr w WF:=by rw[←Z];exact Gr.pt5 oH.o (by omega) _ _ _ _ _
     obtain⟨ae,ah,ai,aj,ak⟩:=vF.c5;exact bodyPost_ret (v:=.agg #[.slice none 0 0,.slice none 0 0,.slice none 0 0,.int .i64 0,.bool true]) (by simp[results,Tryz.results32,go_sem,ae,ah,ai,aj,ak]) rfl ⟨_,_,rfl,by rw[fu.o];exact rdDemand_mk [] [] [] 0 true (SlR.nil _) (SlR.nil _) (SlR.nil _) (by decide),by simpa using aY.nil _,gF.trans gd⟩
 ·clear bB
  have HR:=Kz (show demOf g t xs=([],[],[],0,false) by unfold demOf;rw[if_neg D]);have w9:=Kz (show kT g t=false from eq_false_of_ne_true D);clear D;go_in;go_wp2_with fail;refine(Cg g t _ (Rd.gr HG.o gd) (Rd.gr HT.o gd) bH.o w9.o).mono ?_;rintro e B ⟨rfl,gB⟩;have U:=Kz (Gr.trans gd gB:Gr w B);have gT:=Kz (az.gr (az.new (by simp):az (((w.alloc (.cells #[.slice ag0 g.1.length kg0,.slice ag1 g.2.length kg1] 39)).alloc (.cells #[.slice at_ t.length kt] 43)).alloc (.cells #[.slice none 0 0,.slice none 0 0,.slice none 0 0,.int .i64 0,.bool false] 57)) (w.heap.size+1+1) 57 [.slice none 0 0,.slice none 0 0,.slice none 0 0,.int .i64 0,.bool false]) (Gr.trans gd gB:Gr _ B));obtain⟨e0,e1,e2,e3,e4⟩:=gT.o.c5;have r0:=gT.o.frozen;have y7:=blk e0;clear gB;go_simp;go_wp2_with fail;generalize Z:((((B.setCell ⟨w.heap.size+1+1,0,none⟩ (.slice none 0 0)).setCell ⟨w.heap.size+1+1,1,none⟩ (.slice none 0 0)).setCell ⟨w.heap.size+1+1,2,none⟩ (.slice none 0 0)).setCell ⟨w.heap.size+1+1,3,none⟩ (.int .i64 0)).setCell ⟨w.heap.size+1+1,4,none⟩ (.bool false)=WF;have vF:az WF (w.heap.size+1+1) 57 [.slice none 0 0,.slice none 0 0,.slice none 0 0,.int .i64 0,.bool false]:=by rw[←Z];exact az.pt5 gT.o _ _ _ _ _
  have gF:Gr w WF:=by rw[←Z];exact Gr.pt5 U.o (by omega) _ _ _ _ _
  obtain⟨ae,ah,ai,aj,ak⟩:=vF.c5;exact bodyPost_ret (v:=.agg #[.slice none 0 0,.slice none 0 0,.slice none 0 0,.int .i64 0,.bool false]) (by simp[results,Tryz.results32,go_sem,ae,ah,ai,aj,ak]) rfl ⟨_,_,rfl,by rw[HR.o];exact rdDemand_mk [] [] [] 0 false (SlR.nil _) (SlR.nil _) (SlR.nil _) (by decide),by simpa using aY.nil _,gF.trans gd⟩
theorem allR_len{g:af d}{t:List aT}{xs:List av}{s:Eng}(hg:jI g)(ht:fP g t=true)(h:sW g t xs=some s):s.vals.length=(bU g t).length∧s.st.length=(bU g t).length:=by
 have key:∀(D:List av) (o:Option Eng),(∀s,o=some s→s.vals.length=(bU g t).length∧s.st.length=(bU g t).length)→
   ∀s,D.foldl (fun o x=>o.bind fun s=>(yH g t (bU g t) (bU g t).length s (gL (bU g t) x) (-1)).map (·.2)) o=some s→s.vals.length=(bU g t).length∧s.st.length=(bU g t).length:=by
  intro D
  induction D with
  |nil=>intro o B s h;exact B s h
  |cons x D K=>
   intro o B s h
   refine K _ (fun s1 h1=>?_) s h
   obtain⟨I,J,h1⟩:=Option.bind_eq_some_iff.1 h1;obtain⟨q,O,rfl⟩:=Option.map_eq_some_iff.1 h1;have k:=pG (G5 hg ht) _ I _ (-1) q (kS _ _).1 (B I J).2 (.inl (by decide)) O;exact⟨k.vl.trans (B I J).1,k.sl.trans (B I J).2⟩
 exact key xs _ (fun s h=>by obtain rfl:=Option.some.inj h;simp[Eng.new]) s h
theorem demOf_wt{g:af d}{t:List aT}{xs:List av}:wtDemand (demOf g t xs)≤1048576:=by
 unfold demOf
 split
 ·rename_i hg
  unfold kT at hg;simp only[Bool.and_eq_true] at hg;have hgood:jI g:=dx.1 hg.1
  split
  ·simp[wtDemand,kP,wtL]
  ·rename_i s hs
   have h1:=allR_len hgood hg.2 hs;have q:=jX hgood hg.2;have B:=Ig fM (bU g t) (fun x h=>Eo hgood x h);simp only[wtDemand,kP,length_map];omega
 ·simp[wtDemand,kP,wtL]
theorem specDmd_any{cg ct:Array Value}{v:Value}(g:af d)(t:fU)(xs:List av)(w:World)(hg:Rd.rd fg w cg.toList g)(ht:Rd.rd ft w ct.toList t)(q:SlR fx w v xs)(K:aP g≤1048576)(h:gY t≤1048576)(B:kP xs≤1048576):
  Calls Tryz.prog 30 #[.agg cg,.agg ct,v] w (MadeD w (demOf g t xs)):=by
 have O:=hg;have T:=ht;obtain⟨g0,g1⟩:=g;obtain⟨X,Y,Z,ae,rfl,U,D,I⟩:=aB g0 g1 hg;obtain⟨ag0,kg0,rfl,-,-,-⟩:=D.open;obtain⟨ag1,kg1,rfl,-,-,-⟩:=I.open;obtain⟨t0,rfl⟩:∃y,y=t:=⟨t,rfl⟩;obtain⟨ah,ai,rfl,V,J⟩:=bY t0 ht;obtain⟨aj,ak,rfl,-,-,-⟩:=J.open;obtain⟨ax,kx,rfl,-,-,-⟩:=q.open;exact demS_any (g0,g1) t0 xs w O T q (fun _=>le_trans (bT fM xs) B) K (le_trans (bT fT t0) h) h
theorem implDmd_any{cg ct:Array Value}{v:Value}(g:af d)(t:fU)(xs:List av)(w:World)(hg:Rd.rd fg w cg.toList g)(ht:Rd.rd ft w ct.toList t)(h:SlR fx w v xs)(K:aP g≤1048576)(q:gY t≤1048576)(B:kP xs≤1048576):
  Calls Tryz.prog 32 #[.agg cg,.agg ct,v] w (MadeD w (demOf g t xs)):=by
 have O:=hg;have T:=ht;obtain⟨g0,g1⟩:=g;obtain⟨X,Y,Z,ae,rfl,U,D,I⟩:=aB g0 g1 hg;obtain⟨ag0,kg0,rfl,-,-,-⟩:=D.open;obtain⟨ag1,kg1,rfl,-,-,-⟩:=I.open;obtain⟨t0,rfl⟩:∃y,y=t:=⟨t,rfl⟩;obtain⟨ah,ai,rfl,V,J⟩:=bY t0 ht;obtain⟨aj,ak,rfl,-,-,-⟩:=J.open;obtain⟨ax,kx,rfl,-,-,-⟩:=h.open;exact demI_any (g0,g1) t0 xs w O T h (fun _=>le_trans (bT fM xs) B) K q
end Go.Proofs.YtleafadpfeibfaaGreat
