/- Contracts and laws towards ReadsOf, part 42 of 54. No condition. -/
import Derived.Test.YtdhighcpmcdmmaaGreatFx39
import Derived.Test.YtdhighcpmcdmmaaGreatFx36
set_option maxHeartbeats 32000000
set_option maxRecDepth 10000
set_option linter.unusedVariables false
set_option linter.unusedSimpArgs false
namespace Go.Proofs.YtdhighcpmcdmmaaGreat
open Go.RowKit
open _root_.List (length_append take_length)
open _root_.Nat (le_refl le_trans)
variable{d:Nat}
variable{c g:Nat}{w0 W W':World}
theorem Nu{S:List gV}{k:Nat}{o:ag}(h:k<S.length)(B:∀s∈S.take k,s.1≠o)(D:S[k].1≠o):∀s∈S.take (k+1),s.1≠o:=by
 intro s q
 rw[List.take_succ_eq_append_getElem h,List.mem_append,List.mem_singleton] at q;rcases q with q|rfl
 ·exact B s q
 ·exact D
theorem MC{fp fo:List Nat}{u:Value}{co:Array Value}(S:List gV)(o:ag)(w:World)(hx:SlR fp w u S)(ho:Rd.rd fo w co.toList o):
  Qz 194 #[u,.agg co] w (.int .i64 (Lx S o)):=by
 obtain⟨ax,kx,rfl,aS,aV,aj⟩:=hx.open;obtain⟨q,D,rfl,rfl,-,aZ,bg⟩:=KT ho;clear ho;obtain⟨au,E⟩:=nm (Lx S (q,D));rw[←E];have J:=Kz E;clear E;delta Qz;go_in;go_wp2_with fail;generalize U:(w.alloc (.cells #[.int .i64 q,.string D] 132))=B;have gB:Gr w B:=gb U;obtain⟨ay,aL⟩:=kb2 U (w.heap.size) (.int .i64 q) (.string D);have sB:B.heap.size=w.heap.size+1:=szB U;clear U
 go_loopw [5] (fun s5 wr=>∃k:Nat,k≤S.length∧Ky (∀s∈S.take k,s.1≠(q,D))∧Ky (Gr B wr)∧s5=.int .i64 k) (fun s5 _=>S.length - (intOf s5).toNat)
 case atStart=>exact⟨0,by omega,Kz (by simp),Kz (Gr.refl _),rfl⟩
 case round=>
  obtain⟨k,hk,X,Y,rfl⟩:=hrel
  rename World=>W1
  have K:=gB.trans Y.o;have ae:=Kz K;have y0:=ay _ Y.o;have y1:=aL _ Y.o;have zy:=blk y0
  by_cases H:k<S.length
  ·skip
   obtain⟨b,off,rfl,bq⟩:=aj k H;obtain⟨I,O,q1,T,bB,ah,ai,aN,bD,bH,bK,bL⟩:=Od hx H K;clear ah ai aN K;have k0:(0:Int)≤(k:Int):=by omega
   have k1:(k:Int)<(S.length:Int):=by omega
   have iw:=zI1 k (by omega)
   have Z:(I=q∧O=D)∨(I≠q)∨(I=q∧O.toList≠D.toList):=
    (Classical.em (I=q)).elim (fun t0=>(Classical.em (O=D)).elim (fun t1=>.inl ⟨t0,t1⟩) (fun t1=>.inr (.inr ⟨t0,fun e=>t1 (str_inj e)⟩))) (fun t0=>.inr (.inl t0))
   rcases Z with⟨rfl,rfl⟩|e|⟨rfl,e⟩
   ·have HF:=Kz (show au=q1 from J.o.trans ((MP H X.o (by rw[←T.o])).trans (by rw[←T.o])))
    go_wp2_with fail
    go_region
    all_goals
     go_wp2_with fail;go_ret;exact⟨aC HF.o.symm,ae.o.trans gd⟩
   all_goals
    have e':=Ne.symm e
    have HF:=Kz (Nu H X.o (by
     rw[←T.o];intro h
     simp only[Prod.mk.injEq,true_and] at h
     first|exact e h.1|(rw[h] at e;exact e rfl)|exact e (congrArg ByteArray.toList h)))
    go_wp2_with fail
    go_region
    all_goals
     go_wp2_with fail;exact⟨⟨k+1,by omega,HF,Kz (tg Y),by go_num⟩,by simp[intOf];omega⟩
  ·obtain rfl:k=S.length:=by omega
   rw[take_length] at X;go_wp2_with fail;go_ret;exact⟨aC (J.o.trans (Nf X.o)).symm,ae.o⟩
theorem MF{fp fo:List Nat}{u:Value}{co:Array Value}(S:List gV)(o:ag)(w:World)(hx:SlR fp w u S)(ho:Rd.rd fo w co.toList o):
  Qz 174 #[u,.agg co] w (.int .i64 (Lx S o)):=by
 obtain⟨ax,kx,rfl,aS,aV,aj⟩:=hx.open;obtain⟨q,D,rfl,rfl,-,aZ,bg⟩:=KT ho;clear ho;obtain⟨au,E⟩:=nm (Lx S (q,D));rw[←E];have J:=Kz E;clear E;delta Qz;go_in;go_wp2_with fail;generalize U:(w.alloc (.cells #[.int .i64 q,.string D] 132))=B;have gB:Gr w B:=gb U;obtain⟨ay,aL⟩:=kb2 U (w.heap.size) (.int .i64 q) (.string D);have sB:B.heap.size=w.heap.size+1:=szB U;clear U
 go_loopw [9] (fun s5 wr=>∃k:Nat,k≤S.length∧Ky (∀s∈S.take k,s.1≠(q,D))∧Ky (Gr B wr)∧s5=.int .i64 k) (fun s5 _=>S.length - (intOf s5).toNat)
 case atStart=>exact⟨0,by omega,Kz (by simp),Kz (Gr.refl _),rfl⟩
 case round=>
  obtain⟨k,hk,X,Y,rfl⟩:=hrel
  rename World=>W1
  have K:=gB.trans Y.o;have ae:=Kz K;have y0:=ay _ Y.o;have y1:=aL _ Y.o;have zy:=blk y0
  by_cases H:k<S.length
  ·skip
   obtain⟨b,off,rfl,bq⟩:=aj k H;obtain⟨I,O,q1,T,bB,ah,ai,aN,bD,bH,bK,bL⟩:=Od hx H K;clear ah ai aN K;have k0:(0:Int)≤(k:Int):=by omega
   have k1:(k:Int)<(S.length:Int):=by omega
   have iw:=zI1 k (by omega)
   have Z:(I=q∧O=D)∨(I≠q)∨(I=q∧O.toList≠D.toList):=
    (Classical.em (I=q)).elim (fun t0=>(Classical.em (O=D)).elim (fun t1=>.inl ⟨t0,t1⟩) (fun t1=>.inr (.inr ⟨t0,fun e=>t1 (str_inj e)⟩))) (fun t0=>.inr (.inl t0))
   rcases Z with⟨rfl,rfl⟩|e|⟨rfl,e⟩
   ·have HF:=Kz (show au=q1 from J.o.trans ((MP H X.o (by rw[←T.o])).trans (by rw[←T.o])))
    go_wp2_with fail;skip
    all_goals
     go_wp2_with fail;go_ret;exact⟨aC HF.o.symm,ae.o.trans gd⟩
   all_goals
    have e':=Ne.symm e
    have HF:=Kz (Nu H X.o (by
     rw[←T.o];intro h
     simp only[Prod.mk.injEq,true_and] at h
     first|exact e h.1|(rw[h] at e;exact e rfl)|exact e (congrArg ByteArray.toList h)))
    go_wp2_with fail;skip
    all_goals
     go_wp2_with fail;exact⟨⟨k+1,by omega,HF,Kz (tg Y),by go_num⟩,by simp[intOf];omega⟩
  ·obtain rfl:k=S.length:=by omega
   rw[take_length] at X;go_wp2_with fail;go_ret;exact⟨aC (J.o.trans (Nf X.o)).symm,ae.o⟩
set_option maxRecDepth 100000 in
theorem AB{ft:List Nat}{ct:Array Value}(t:fU)(i:Int)(w:World)(ht:Rd.rd ft w ct.toList t)(hl:gY t≤1048576):
  Calls Tryz.prog 106 #[.agg ct,.int .i64 i] w (p8 w (iB t i)):=by
 obtain⟨i0,hi⟩:=info_parts Tryz.kJ;have H:=Kz hi;clear hi;have fe:=Kz hl;clear hl;have HT:=Kz ht;obtain⟨t0,l5,aZ,l6,rfl,rfl,-,X,kX,dL⟩:=K8 ht;have dU:=X.op3;clear ht
 by_cases Y:0≤i∧i≤(t0.length:Int) - 1
 ·obtain⟨m,rfl⟩:∃m:Nat,i=m:=⟨i.toNat,by omega⟩
  have s:m<t0.length:=by omega
  have bg:=Kz Y;have fu:=Ah fe.o s;have Z:=Bg s;obtain⟨b,off,rfl,l7⟩:=dU m s;obtain⟨q0,q1,q2,q3,q4,q5,l8,ma,mf,mh,fw,mo,mq,mr,mH,mZ,nz,bq,kZ,lq,fA,fK,gm,gD,gF,bB,nM⟩:=KZ X s (Gr.refl _);rw[←fw.o] at fu Z;obtain⟨gH,hsrc,-,-⟩:=eT.qL bq;have bD:=hsrc.flat nK;have dW:=Kz hsrc;have bH:=Kz bD;have HM:=Kz (jm (y:=(m:Int)) (by omega) (by have:=dL;omega));obtain⟨L,hL⟩:=nm ([(m:Int)]++q5);have nO:L.length=q5.length+1:=by rw[hL];simp
  have ae:iB t0 (m:Int)=L.flatMap (KI t0):=by rw[Z,hL];rfl
  have HL:=Kz hL;have gM:=Kz ae;have nP:(0:Int)≤(m:Int):=by omega
  have nS:(m:Int)<(t0.length:Int):=by omega
  clear hsrc bD Z ae hL Y bq;go_in;go_wp2_with fail;generalize hB:(w.alloc (.cells #[.slice (some ⟨b,off,none⟩) t0.length aZ] 40))=B;have K:Gr w B:=gb hB;have bK:=kb hB (w.heap.size) 0 (.slice (some ⟨b,off,none⟩) t0.length aZ);have sB:B.heap.size=w.heap.size+1:=szB hB;clear hB;refine(gQ t0 _ _ (Rd.gr HT.o (K.trans gd)) bg.o.1 bg.o.2).mono ?_;rintro e W2 ⟨rfl,g2⟩;have I:Gr B W2:=(gd:Gr B (B.alloc (.cells #[] 3))).trans g2;have bN:=(bE.kF (α:=Int) (w0:=B) (w:=B) 3 (le_refl _) (show w.heap.size+1=B.heap.size by omega)).gr g2;have gT:=Kz bN;have nZ:w.heap.size+1<W2.heap.size:=by have:=g2.size;simp at this;omega
  have y0:=bK _ I;have oh:=blk y0;have ik:=Kz I;have bV:=(K.trans I).keep bB;have oo:=blk bV;have eH:=Kz (K.trans I);clear g2 I bN
  go_wp2_with (first|(at_builtin;refine bP (α:=Int) (w0:=W2) gd rfl _ _ 29 rfl 3 i0 (.int .i64 0) 8 Tryz.underlying29 H.o.1 H.o.2.1 H.o.2.2.1 H.o.2.2.2 rfl _ [[]] [(m:Int)] (by rfl) (bE.Kg 3 (le_refl _) (by simp) HM.o) _ gH q5 (by rfl) (dW.o.gr (tg eH)) (fun b _=>by rw[bH.o];simp) (by unfold maxLen;simp;omega) (by simp;omega) ?_;intro v9 w9 T k2 k3 k4;rw[←HL.o] at T;obtain⟨ra,rc,rfl⟩:=T.form;replace T:=Kz T;replace k4:=Kz k4;clear k2 k3))
  have ah:=T.o.fresh (by unfold bn;omega) (by simp[bH.o];exact aY.nil _);obtain⟨fL,sL,cK⟩:=ah;have iw:=Kz cK;obtain⟨aL,oq,eL,-,-,cO⟩:=sL.open;injection eL with jN _ jX;subst jN jX;obtain⟨bL,oL,rfl,-⟩:=cO 0 (by omega);have j4:=Kz sL;have j5:=Kz (SlR.lt sL);clear T cK sL cO
  go_loopw [24,5] (fun ai s5 wr=>∃(k:Nat) (fps:List (List Nat)),k≤L.length∧Ky (fps.flatten=[])∧Gr B wr∧SlR fL wr (.slice (some ⟨bL,oL,none⟩) L.length rc) L∧Ky (∀b,s5.ownBlock=some b→b=w.heap.size+1∨w9.heap.size≤b)∧w9.heap.size≤wr.heap.size∧bE (α:=Int) B 3 wr s5 fps ((L.take k).flatMap (KI t0))∧ai=.int .i64 k) (fun ai _ _=>L.length - (intOf ai).toNat)
  case atStart=>exact⟨0,[],by omega,Kz rfl,ik.o.trans k4.o,j4.o,Kz (fun b J=>.inl (ownB J).symm),le_refl _,gT.o.gr k4.o,rfl⟩
  case round=>
   obtain⟨k,fps,hk,HF,hg,aj,HV,au,hown,rfl⟩:=hrel
   rename World=>W3
   have E:=Kz hg;have HO:=Kz hown;have ax:=Kz aj;obtain⟨ra,ow,O⟩:=hown.form;obtain⟨M,hM⟩:=nm ((L.take k).flatMap (KI t0))
   have oz:M.length≤1048577:=by
    have:=ES t0 (L.take k);rw[←hM,List.length_take] at this;omega
   rw[←hM] at O;have q:=Kz hM;have y1:=bK _ hg;have oG:=blk y1;subst O;clear hg hown hM
   by_cases dz:k<L.length
   ·obtain⟨c,hc⟩:=nm (L[k])
    have cL:=(aj.fQ dz).1;rw[←hc] at cL;have dA:(L.take (k+1)).flatMap (KI t0)=M++KI t0 c:=by rw[List.take_succ_eq_append_getElem dz,List.flatMap_append,←q.o,←hc];simp
    have dC:=Kz dA;have j0:(0:Int)≤(k:Int):=by omega
    clear hc dA aj
    by_cases hc:0≤c∧c≤(t0.length:Int) - 1
    ·obtain⟨n,rfl⟩:∃n:Nat,c=n:=⟨c.toNat,by omega⟩
     have s:n<t0.length:=by omega
     have HC:=Kz hc;have ay:=K.trans E.o;have aN:=Kz ay;clear fA fK gm gD gF bB bV;obtain⟨p0,p1,p2,p3,p4,p5,oH,oK,oN,oV,ku,oW,dG,ky,kz,kE,kL,kQ,lG,lV,o9,pG,pM,pR,pV,p9,qo⟩:=KZ X s ay;have kS:=Kz dG;have qD:(0:Int)≤(n:Int):=by omega
     have qE:(n:Int)<(t0.length:Int):=by omega
     have aS:KI t0 (n:Int)=[p0]:=by rw[wo s,←ku.o]
     have aV:=Kz aS;clear aS ay dG ky kz kE kL kQ hc;go_wp2_with fail;refine(gQ t0 _ _ (Rd.gr HT.o (tg aN)) HC.o.1 HC.o.2).mono ?_;rintro e w' ⟨rfl,x4,rfl⟩
     go_wp2_with (first|(at_builtin;refine eU (α:=Int) (wg:=B) (w0:=B) (tg E) (le_refl _) (tg E).size rfl _ _ 29 rfl 3 i0 (.int .i64 0) 8 Tryz.underlying29 H.o.1 H.o.2.1 H.o.2.2.1 H.o.2.2.2 rfl _ fps _ (by rfl) (HO.o.gr gd) _ [[]] [p0] (by rfl) (eT.one (by simp) (rO kS.o _)) (fun b _=>by simp) (by rw[←q.o];unfold maxLen;simp;omega) (by rw[←q.o];simp;omega) ?_;intro v3 w3 U h2 h3 h4;replace U:=Kz U;replace h2:=Kz h2;replace h3:=Kz h3;replace h4:=Kz h4))
     refine⟨⟨k+1,fps++[[]],by omega,Kz (by rw[List.flatten_append,HF.o];rfl),h4.o,?_,Kz (fun b J=>?_),le_trans au (le_trans (by simp<;>omega) h2.o.size),?_,by go_num⟩,by simp[intOf];omega⟩
     ·refine(ax.o.gr gd).wr h2.o (fun b J hm=>?_)
      have h5:=iw.o.2 b J;have h6:=j5.o b J;rcases HV.o b (by simpa using hm) with h|h<;>omega
     ·rcases h3.o with h|h
      ·exact HV.o b (h▸J)
      ·rw[h] at J
       obtain rfl:=Option.some.inj J
       right;simp;omega
     ·rw[dC.o,aV.o,q.o]
      exact U.o
    ·have D:c<0∨(t0.length:Int) - 1<c:=by omega
     have HC:=Kz D;have aV:=Kz (BK D);have aN:=Kz (K.trans E.o);clear D hc;go_wp2_with fail;refine(lH t0 _ _ (Rd.gr HT.o (tg aN)) HC.o).mono ?_;rintro e w' ⟨rfl,x4,rfl⟩;go_wp2_with fail;refine⟨⟨k+1,fps,by omega,HF,E.o.trans gd,ax.o.gr gd,HV,le_trans au (by simp),?_,by go_num⟩,by simp[intOf];omega⟩;rw[dC.o,aV.o,List.append_nil];have U:=HO.o;rw[←q.o] at U;exact U.gr gd
   ·have kT:k=L.length:=by omega
    subst kT;have ah:=HO.o.fresh (by rw[←q.o];unfold bn;omega) (by rw[HF.o];exact aY.nil _);obtain⟨fq,hs,hf⟩:=ah;rw[←q.o] at hs;have HS:=Kz hs;have kV:=Kz (hf.of_le K.size);have hN:iB t0 (m:Int)=M:=by rw[gM.o,q.o,take_length]
    have HN:=Kz hN;clear hs hf hN;go_wp2_with fail;go_ret;exact⟨_,fq,rfl,by rw[HN.o];exact HS.o.gr gd,kV.o,K.trans (tg E)⟩
 ·have D:i<0∨(t0.length:Int) - 1<i:=by omega
  have HO:=Kz D;have HN:=Kz (BL D);clear D Y;go_in;go_wp2_with fail;refine(lH t0 _ _ (Rd.gr HT.o gd) HO.o).mono ?_;rintro e w' ⟨rfl,x1,rfl⟩;go_wp2_with fail;go_ret;exact⟨_,[],rfl,by rw[HN.o];exact⟨_,0,rfl,by simp,by simp,.inl ⟨rfl,rfl⟩⟩,aY.nil _,gd⟩
theorem tH:(d:Nat)→(x:GE d)→(gP d x).length≤cZ d x
 |0,x=>PEmpty.elim x
 |d+1,x=>by
  obtain⟨q0,q1,q2,q3,q4,q5,q6⟩:=(x:aA d);rw[wW,wE,length_append];have s:(if q0=3 then[(q2,q5)] else[]:List ag).length≤1:=by split<;>simp
  have q:∀h:List (GE d),(h.flatMap (gP d)).length≤(h.map (cZ d)).sum:=by
   intro h
   induction h with
   |nil=>simp
   |cons y h B=>
    have:=tH d y;simp only[List.flatMap_cons,length_append,List.map_cons,List.sum_cons];omega
  have:=q q6;omega
structure qY(w0:World)(c g:Nat)(W:World)(L:List ag):Prop where
 gr:Gr w0 W
 hc:w0.heap.size≤c
 ne:c≠g
 fz:W.frozen? ⟨c,0,none⟩=false
 row:∃v fps,W.cell? ⟨c,0,none⟩=some v∧bE (α:=ag) w0 132 W v fps L∧fps.flatten=[]∧v.ownBlock=some g
structure je(c g:Nat)(W:World)(g':Nat)(W':World):Prop where
 wr:Wr [c,g] W W'
 nw:g'=g∨W.heap.size≤g'
theorem qY.grow{L:List ag}(h:qY w0 c g W L)(q:Gr W W'):qY w0 c g W' L:=by
 obtain⟨v,fps,s,B,D,E⟩:=h.row;exact⟨h.gr.trans q,h.hc,h.ne,(q.eF []).vZ h.fz (blk s) (by simp),v,fps,q.keep s,B.gr q,D,E⟩
theorem qY.lt{L:List ag}(h:qY w0 c g W L):c<W.heap.size∧g<W.heap.size∧w0.heap.size≤g:=by
 obtain⟨v,fps,B,q,D,s⟩:=h.row;exact⟨blk B,(q.base g s).2,(q.base g s).1⟩
theorem je.refl(c g:Nat)(W:World):je c g W g W:=⟨Wr.refl _ _,.inl rfl⟩
theorem je.dm(h:Gr W W'):je c g W g W':=⟨h.eF _,.inl rfl⟩
theorem je.trans{s B:Nat}{D:World}(h:je c g W s W')(k:je c s W' B D):je c g W B D:=by
 refine⟨h.wr.Jp k.wr fun x q=>?_,?_⟩
 ·rcases List.mem_cons.1 q with rfl|q
  ·exact .inl (by simp)
  ·rcases h.nw with e|e
   ·rw[List.mem_singleton.1 q,e];exact .inl (by simp)
   ·rw[List.mem_singleton.1 q];exact .inr e
 ·have:=h.wr.size
  rcases k.nw with e|e
  ·rw[e];exact h.nw
  ·exact .inr (by omega)
theorem je.keep{q:Nat}(h:je c g W q W'){b o:Nat}{v:Value}(hc:W.cell? ⟨b,o,none⟩=some v)(s:b≠c)(B:b≠g):W'.cell? ⟨b,o,none⟩=some v:=
 h.wr.aO hc (by simp[s,B])
def tK(w0:World)(c g:Nat)(W:World)(L:List ag)(w':World):Prop:=∃h,qY w0 c h w' L∧je c g W h w'
theorem FV{L:List ag}(fp:List Nat)(cs:Array Value)(x:aA d)(hx:Rd.rd fp W cs.toList x)(D:qY w0 c g W L)(hl:L.length+1≤2097152):
  Calls Tryz.prog 218 #[.agg cs,.pointer (some ⟨c,0,none⟩)] W fun e w'=>e=.returned (.bool true)∧tK w0 c g W (L++if x.1=3 then[(x.2.2.1,x.2.2.2.2.2.1)] else[]) w':=by
 obtain⟨i0,hi⟩:=info_parts Tryz.nX;have I:=Kz hi;clear hi;have s:=Kz D;obtain⟨q0,q1,q2,q3,q4,q5,q6,bB,bD,bH,rfl,rfl,-,au,ax,K,ay,aL,O,aN,bg,bq⟩:=KU hx;clear hx;have T:=Kz (And.intro K O)
 show Calls _ _ _ _ fun e w'=>e=.returned (.bool true)∧tK w0 c g W (L++if q0=3 then[(q2,q5)] else[]) w'
 by_cases E:q0=3
 ·subst E
  obtain⟨v,fps,hc,hown,hf,q⟩:=D.row;obtain⟨ra,rc,rfl⟩:=hown.form;have HO:=Kz hown;have HF:=Kz hf;have J:=Kz q;have zc:=blk hc;have HG:=Kz D.gr;clear D hown hf q au ax K ay aL O aN;rw[if_pos rfl];go_in
  go_wp2_with (first|(at_builtin;refine eU (α:=ag) (wg:=w0) (w0:=w0) (tg HG) (le_refl _) (tg HG).size rfl _ _ 129 rfl 132 i0 _ _ Tryz.underlying129 I.o.1 I.o.2.1 I.o.2.2.1 I.o.2.2.2 rfl _ fps L (by rfl) (HO.o.gr gd) _ [[]] [(q2,q5)] (by rfl) (eT.one (by simp) (bO q2 q5 T.o.1 T.o.2)) (fun b _=>by simp) (by unfold maxLen;simp;omega) (by simp;omega) ?_;intro v3 H h1 h2 E h4;obtain⟨U,X,Y⟩:=h1.form;rw[show(L++([(q2,q5)]:List ag)).length=L.length+1 by simp] at Y;subst Y;have K1:=Kz h1;have K4:=Kz h4;have K2:=Kz ((show Gr W _ from gd).eF _ |>.trans h2);have K3:=Kz E;have Z:H.cell? ⟨c,0,none⟩=some (.slice ra L.length rc):=K2.o.aO hc (by rw[J.o];simpa using s.o.ne);have bK:=blk Z;have aS:H.frozen? ⟨c,0,none⟩=false:=K2.o.vZ s.o.fz zc (by rw[J.o];simpa using s.o.ne);clear h1 h2 E h4))
  go_ret
  have aV:∃B,(Value.slice U (L.length+1) X).ownBlock=some B∧c≠B∧(B=g∨W.heap.size≤B):=by
   rcases K3.o with h|h
   ·exact⟨g,by rw[h];exact J.o,s.o.ne,.inl rfl⟩
   ·exact⟨_,h,by simp;omega,.inr (by simp;omega)⟩
  obtain⟨B,ae,ah,aZ⟩:=aV;have ai:Wr [c] H (H.setCell ⟨c,0,none⟩ (.slice U (L.length+1) X)):=(Wr.refl _ _).setCell (by simp) _;have aj:(fps++[[]]).flatten=[]:=by simp[HF.o]
  refine⟨rfl,B,⟨Gr.setCell K4.o (by show _≤c;exact s.o.hc) _,s.o.hc,ah,by rw[World.frozen?_setCell];exact aS,_,_,iY Z,K1.o.wr ai (by rw[aj];simp) (fun b q=>?_),aj,ae⟩,⟨?_,aZ⟩⟩
  ·rw[ae] at q
   injection q with q;rw[←q];simpa using fun e=>ah e.symm
  ·refine Wr.trans (b:=H) (K2.o.sub fun b q=>?_) (ai.sub fun b q=>?_)
   ·rw[J.o] at q
    simp at q;simp[q]
   ·simp at q;simp[q]
 ·rw[if_neg E,List.append_nil]
  clear D;go_in;go_wp2_with fail;go_ret;exact⟨rfl,g,s.o.grow gd,je.dm gd⟩
theorem AV(xs:List (GE d)):(xs.flatMap (gP d)).length≤(xs.map (cZ d)).sum:=by
 induction xs with
 |nil=>simp
 |cons y h q=>
  have:=tH d y;simp only[List.flatMap_cons,length_append,List.map_cons,List.sum_cons];omega
def zG(w0:World)(c d:Nat):Prop:=∀(fp:List Nat) (cs:Array Value) (x:GE d) (g:Nat) (W:World) (L:List ag) (h:Rd.rd fp w0 cs.toList x) (q:qY w0 c g W L) (s:L.length+cZ d x≤2097152),
 Calls Tryz.prog 204 #[.agg cs,.func (.func 218) #[] #[.pointer (some ⟨c,0,none⟩)]] W fun e w'=>e=.returned (.bool true)∧tK w0 c g W (L++gP d x) w'
theorem JF(I:zG w0 c d)(fp:List Nat)(cs:Array Value)(x:GE d)(g:Nat)(W:World)(L:List ag)(b:Nat)(s:Rd.rd fp w0 cs.toList x)(B:qY w0 c g W L)(D:L.length+cZ d x≤2097152)
  (J:W.cell? ⟨b,0,none⟩=some (.func (.func 218) #[] #[.pointer (some ⟨c,0,none⟩)])):
  Calls Tryz.prog 251 #[.agg cs,.pointer (some ⟨b,0,none⟩)] W fun e w'=>e=.returned (.bool false)∧tK w0 c g W (L++gP d x) w':=by
 obtain⟨d1,rfl⟩:∃e,d=e+1:=by
  cases d with
  |zero=>exact PEmpty.elim x
  |succ e=>exact⟨e,rfl⟩
 have K:=Kz s;have O:=Kz B;have T:=Kz D;obtain⟨q0,q1,q2,q3,q4,q5,Y,Z,kq,rfl⟩:=eO (show Rd.rd (α:=aA d1) fp w0 cs.toList _ from s);have X:=blk J;clear s B D;go_in;go_wp2_with fail;refine(I _ _ x g _ L K.o (O.o.grow gd) T.o).mono ?_;rintro e w' ⟨rfl,U,h,q⟩;have E:=Kz h;have H:=Kz q;clear h q;go_wp2_with fail;go_ret;exact⟨rfl,U,E.o.grow gd,(je.dm gd).trans (H.o.trans (je.dm gd))⟩
theorem JL(hE:zG w0 c d)(fp:List Nat)(u:Value)(xs:List (GE d))(g:Nat)(W:World)(L:List ag)(b:Nat)(hu:SlR fp w0 u xs)(hS:qY w0 c g W L)(hl:L.length+(xs.map (cZ d)).sum≤2097152)
  (hb:W.cell? ⟨b,0,none⟩=some (.func (.func 218) #[] #[.pointer (some ⟨c,0,none⟩)])) (J:b≠c) (K:b≠g):
  Calls Tryz.prog 203 #[u,.func (.func 251) #[] #[.pointer (some ⟨b,0,none⟩)]] W fun e w'=>e=.returned (.int .i64 (-1))∧tK w0 c g W (L++xs.flatMap (gP d)) w':=by
 obtain⟨a,ca,rfl,h1,h2,h3⟩:=hu.open;have bD:=Tryz.call251;have HU:=Kz hu;have HS:=Kz hS;have HL:=Kz hl;have HB:=Kz hb;have O:=Kz (And.intro J K);clear hu hS hl hb J K;go_in;go_wp2_with fail
 go_loopw [8,5] (fun s8 s5 wr=>∃(k E:Nat),k≤xs.length∧Ky (qY w0 c E wr (L++(xs.take k).flatMap (gP d)))∧Ky (je c g W E wr)∧s8=.int .i64 k) (fun s8 s5 _=>xs.length - (intOf s8).toNat)
 case atStart=>exact⟨0,g,by omega,Kz (by simpa using HS.o.grow gd),Kz (je.dm gd),rfl⟩
 case round=>
  obtain⟨k,E,hk,s,H,rfl⟩:=hrel
  rename World=>W1
  by_cases B:k<xs.length
  ·have ae:=Kz (lI (cZ d) xs B)
   have ah:=Kz (nu (cZ d) xs (k+1));have ai:=Kz (show(xs.take (k+1)).flatMap (gP d)=(xs.take k).flatMap (gP d)++gP d xs[k] by rw[List.take_succ_eq_append_getElem B,List.flatMap_append,List.flatMap_singleton]);have aj:=Kz (AV (xs.take k));have q:=Kz s.o.gr;obtain⟨b2,off,rfl,bH⟩:=h3 k B
   obtain⟨d1,rfl⟩:∃e,d=e+1:=by
    cases d with
    |zero=>exact PEmpty.elim (xs[k])
    |succ e=>exact⟨e,rfl⟩
   obtain⟨T,au,h,D,-⟩:=HU.o.at B;have ax:=Kz D;obtain⟨yp,hyp⟩:=nm (xs[k]);rw[←hyp] at D;obtain⟨p0,p1,p2,p3,p4,p5,p6⟩:=yp;obtain⟨bK,bL,I,-,ay,aL,aN,aS,aV,aZ,U⟩:=aF (cs:=T.toArray) p0 p1 p2 p3 p4 p5 p6 (show Rd.rd (α:=aA d1) au w0 T.toArray.toList _ from D);obtain rfl:=toL I;obtain⟨bN,bV,rfl,-,-,-⟩:=U.open;have z0:=q.o.keep (show w0.cell? ⟨b2,off+k*7,none⟩=some (.int .i64 p0) from h 0 _ rfl);replace h:∀j v,_→w0.cell? ⟨b2,off+k*7+j,none⟩=some v:=h;have z1:=q.o.keep (h 1 _ rfl);have z2:=q.o.keep (h 2 _ rfl);have z3:=q.o.keep (h 3 _ rfl);have z4:=q.o.keep (h 4 _ rfl);have z5:=q.o.keep (h 5 _ rfl);have z6:=q.o.keep (h 6 _ rfl);clear h3 I h D hyp ay aL aN aS aV aZ U;have zb:=blk z0;have X:=H.o.keep HB.o O.o.1 O.o.2;have bg:=Kz X;clear X;have iw:=zI1 k (by omega);have k0:(0:Int)≤(k:Int):=by omega
   have k1:(k:Int)<(xs.length:Int):=by omega
   go_wp2_with fail;refine(JF hE _ _ xs[k] E _ _ b ax.o (s.o.grow gd) (by have:=ae.o;have:=ah.o;have:=aj.o;have:=HL.o;rw[length_append];omega) ((gd:Gr W1 _).keep bg.o)).mono ?_;rintro e w2 ⟨rfl,g2,Y,Z⟩;have bq:=Kz Y;have bB:=Kz Z;clear Y Z;go_wp2_with fail
   all_goals
    refine⟨⟨k+1,g2,by omega,Kz (by rw[ai.o,←List.append_assoc];exact bq.o.grow gd),Kz (H.o.trans ((je.dm gd).trans (bB.o.trans (je.dm gd)))),by go_num⟩,by simp[intOf];omega⟩
  ·obtain rfl:k=xs.length:=by omega
   rw[take_length] at s;go_wp2_with fail;go_ret;exact⟨rfl,E,s.o.grow gd,H.o.trans (je.dm gd)⟩
theorem II(E:zG w0 c d)(fp:List Nat)(u:Value)(xs:List (GE d))(g:Nat)(W:World)(L:List ag)(b:Nat)(hu:SlR fp w0 u xs)(h:qY w0 c g W L)(H:L.length+(xs.map (cZ d)).sum≤2097152)
  (I:W.cell? ⟨b,0,none⟩=some (.func (.func 218) #[] #[.pointer (some ⟨c,0,none⟩)])) (q:b≠c) (s:b≠g):
  Calls Tryz.prog 137 #[u,.func (.func 251) #[] #[.pointer (some ⟨b,0,none⟩)]] W fun e w'=>e=.returned (.bool false)∧tK w0 c g W (L++xs.flatMap (gP d)) w':=by
 have J:=Kz h;clear h;go_in
 go_wp2_with (go_at_call 203;refine(JL E fp _ xs g _ L b hu (J.o.grow gd) H ((gd:Gr W _).keep I) q s).mono ?_;rintro e w1 ⟨rfl,K,B,D⟩)
 go_ret;exact⟨rfl,K,B.grow gd,(je.dm gd).trans (D.trans (je.dm gd))⟩
theorem JS(hE:zG w0 c d):zG w0 c (d+1):=by
 intro fp cs x g w L hx hS hl
 have HS:=Kz hS;clear hS;obtain⟨q0,q1,q2,q3,q4,q5,q6,K,O,bD,rfl,rfl,-,bH,bK,bL,bN,bV,cK,ah,bq,bB⟩:=KU hx;have HX:=Kz hx;have ai:=Kz ah;clear hx;rw[wE] at hl;have HL:=Kz hl;rw[wW];obtain⟨s,q⟩:∃P:List ag,P=if q0=3 then[(q2,q5)] else[]:=⟨_,rfl⟩
 have aj:=Kz (show s.length≤1 by rw[q];split<;>simp);have ae:=Kz q;rw[←q];clear hl q;go_in;go_wp2_with fail;generalize J:(w.alloc (.cells #[.int .i64 q0,.int .i64 q1,.int .i64 q2,.int .i64 q3,.string q4,.string q5,.slice K q6.length O] 115)).alloc (.cells #[.func (.func 218) #[] #[.pointer (some ⟨c,0,none⟩)]] 172)=B;have gB:Gr w B:=gb J;have E:B.cell? ⟨w.heap.size,6,none⟩=some (.slice K q6.length O):=by rw[←J];exact Gr.keep (Gr.alloc (Gr.refl _) _) (aJ rfl rfl)
 have f0:B.cell? ⟨w.heap.size+1,0,none⟩=some (.func (.func 218) #[] #[.pointer (some ⟨c,0,none⟩)]):=by rw[←J];exact aJ (by simp) rfl
 have au:=Kz gB;have T:=Kz (HS.o.grow gB);have h:=Kz HS.o.lt;have ax:=Kz E;have ay:=Kz f0;have zf:=blk f0;have zb:=blk E;clear J gB E;have cO:=Tryz.call218;refine(FV _ _ (q0,q1,q2,q3,q4,q5,q6) (Rd.gr HX.o T.o.gr) T.o (by have:=HL.o;omega)).mono ?_;rintro e w2 ⟨rfl,g2,U,D⟩;have aL:=Kz (show qY w0 c g2 w2 (L++s) from by rw[ae.o];exact U);have H:=Kz D;have E:=D.keep ax.o (by have:=h.o;omega) (by have:=h.o;omega);have I:=Kz (D.keep ay.o (by have:=h.o;omega) (by have:=h.o;omega));have aN:=H.o.wr.size
 have X:w.heap.size+1≠g2:=by
  have h1:=h.o;rcases H.o.nw with e|e<;>omega
 have aS:=Kz X;have f0:=I.o;have zb:=blk E;clear U D aN X;have aV:=Kz (show(L++s).length+(q6.map (cZ d)).sum≤2097152 by have:=HL.o;have:=aj.o;rw[length_append];omega)
 go_wp2_with (first|(go_at_call 137;refine(II hE _ _ q6 g2 _ (L++s) (w.heap.size+1) ai.o (aL.o.grow gd) aV.o ((gd:Gr w2 _).keep I.o) (by have:=h.o;omega) aS.o).mono ?_;rintro e w3 ⟨rfl,g3,Y,Z⟩;have aZ:=Kz Y;have bg:=Kz Z;clear Y Z))
 go_ret;refine⟨rfl,g3,?_,?_⟩
 ·rw[←List.append_assoc]
  exact aZ.o.grow gd
 ·exact(je.dm au.o).trans (H.o.trans ((je.dm gd).trans (bg.o.trans (je.dm gd))))
theorem EJ(w0:World)(c:Nat):(d:Nat)→zG w0 c d
 |0=>by intro fp cs x;exact PEmpty.elim x
 |d+1=>JS (EJ w0 c d)
theorem wB{g:af d}{r:aW d}(h:aP g≤1048576):(n:Nat)→JC g r n
 |0=>by intro fg fr fx cg cr cx x;exact PEmpty.elim x
 |n+1=>FD h (wB h n)
theorem oO{n:Nat}{fg fr fx:List Nat}{cg cr cx:Array Value}(g:af d)(r:aW d)(x:aA n)(v:Int)(w:World)(s:Rd.rd fg w cg.toList g)(B:Rd.rd fr w cr.toList r)(D:Rd.rd fx w cx.toList x)(E:aP g≤1048576)(q:ak x≤1048576)(H:dZ g r (n+1) x=v):
  Qz 249 #[.agg cg,.agg cr,.agg cx] w (.int .i64 v):=by
 have h:=wB (g:=g) (r:=r) E (n+1) fg fr fx cg cr cx x w s B D q;rw[H] at h;exact h.mono fun e w' h=>⟨h.1,h.2.2⟩
theorem qi{fg fr:List Nat}{cg cr:Array Value}(g:af d)(r:aW d)(w:World)(hg:Rd.rd fg w cg.toList g)(hr:Rd.rd fr w cr.toList r)(hl:aP g≤1048576)(pG:bF r≤1048576):
  Qz 200 #[.agg cg,.agg cr] w (.bool (!pB (kW g r))):=by
 have fK:=Kz hl;have HG:=Kz hg;obtain⟨U,X,pM,pR,yL,pV,p9,yN,rfl,rfl,-,yO,wO,wP,yQ,wZ,w9⟩:=yt hg;clear hg;have HR:=Kz hr;obtain⟨Y,Z,r2,r3,I,J,qo,qD,yT,qE,qG,yX,qN,qR,yY,rfl,rfl,-,y5,y7,y8,xc,xg,qV,xR,xS,qX,x9,yc⟩:=KV hr;have sO:=qV.op3;have sW:=qX.op3;clear hr;have rf:Y.size+Z.size+wtL ByteArray.size r2+wtL aU I+wtL aI J≤1048576:=pG;have y9:I.length≤1048576:=by have:=bT aU I;omega
 have zb:J.length≤1048576:=by have:=bT aI J;omega
 have HL:=Kz rf;clear hl pG rf;delta Qz;go_in;go_wp2_with fail;generalize hB:(w.alloc (.cells #[.slice pM U.length pR,.slice pV X.length p9] 36)).alloc (.cells #[.string Y,.string Z,.slice qo r2.length qD,.bool r3,.slice qE I.length qG,.slice qN J.length qR] 112)=B;have gB:Gr w B:=gb hB;have VG:=Kz (show az B w.heap.size 36 [.slice pM U.length pR,.slice pV X.length p9] from by rw[←hB];exact kv);have VR:=Kz (show az B (w.heap.size+1) 112 [.string Y,.string Z,.slice qo r2.length qD,.bool r3,.slice qE I.length qG,.slice qN J.length qR] from by rw[←hB];exact kv);have rq:=Kz gB;clear hB gB
 go_loopw [18] (fun s5 wr=>∃k:Nat,k≤I.length∧Ky (∀q∈I.take k,dZ (U,X) (Y,Z,r2,r3,I,J) (d+1) q.2=pO (jf (U,X) (Y,Z,r2,r3,I,J) q.1))∧Ky (Gr B wr)∧s5=.int .i64 k) (fun s5 _=>I.length - (intOf s5).toNat)
 case atStart=>exact⟨0,by omega,Kz (by simp),Kz (Gr.refl _),rfl⟩
 case round=>
  obtain⟨k,hk,HA,aS,rfl⟩:=hrel
  rename World=>W1
  have dC:=rq.o.trans aS.o;have gm:=Kz dC;have vg:=VG.o.gr aS.o;have vr:=VR.o.gr aS.o;obtain⟨K,ah⟩:=vg.c2;obtain⟨O,ai,aj,au,ax,ay⟩:=vr.c6;have zg:=blk K;have zr:=blk O;clear vg vr
  by_cases aV:k<I.length
  ·have jN:=Kz (fun h=>dD aV HA.o h)
   have gM:=Kz (List.getElem_mem aV);have gF:=dI aU I aV;obtain⟨b,off,rfl,gH⟩:=sO k aV;obtain⟨dG,dz,dL,dU,dW,eH,fe,fu,fw,jX,j4,yf,uW,fA,uZ,j5,ku,ky,kz,kE,kL,kQ,kS,kT,wm,wz,kV,kX,kZ,lq,lG,lV,l5,l6,l7,l8⟩:=KY qV aV dC;have ve:=Kz (bJ dL dU dW eH fe fu fw ky kz kE kL kQ kS kT);have vo:=Kz (fun W=>bO (w:=W) dG dz j5 ku)
   have vv:=Kz (show ak (dL,dU,dW,eH,fe,fu,fw)≤1048576 by
    have h2:=HL.o;rw[←fA.o] at gF;have h3:aU (((dG,dz),(dL,dU,dW,eH,fe,fu,fw)):aX d)=dz.size+ak (dL,dU,dW,eH,fe,fu,fw):=rfl;omega)
   clear gF;obtain⟨T,hT⟩:=nm (dZ (U,X) (Y,Z,r2,r3,I,J) (d+1) (dL,dU,dW,eH,fe,fu,fw));have HT:=Kz hT;have k0:(0:Int)≤(k:Int):=by omega
   have k1:(k:Int)<(I.length:Int):=by omega
   have iw:=zI1 k (by omega);clear dC j5 ku ky kz kE kL kQ kS kT hT;go_wp2_with fail;generalize hC:(W1.alloc (.cells #[.int .i64 dG,.string dz,.int .i64 dL,.int .i64 dU,.int .i64 dW,.int .i64 eH,.string fe,.string fu,.slice jX fw.length j4] 134))=C;have gC:Gr W1 C:=gb hC;have VC:=Kz (show az C W1.heap.size 134 [.int .i64 dG,.string dz,.int .i64 dL,.int .i64 dU,.int .i64 dW,.int .i64 eH,.string fe,.string fu,.slice jX fw.length j4] from by rw[←hC];exact az.new rfl);have s:=Kz gC;clear hC gC;replace K:=s.o.keep K;replace ah:=s.o.keep ah;replace O:=s.o.keep O;replace ai:=s.o.keep ai;replace aj:=s.o.keep aj;replace au:=s.o.keep au;replace ax:=s.o.keep ax;replace ay:=s.o.keep ay;replace zg:=blk K;replace zr:=blk O;obtain⟨c0,c1,c2,c3,c4,c5,c6,c7,c8⟩:=VC.o.c9;have zc:=blk c0;have dA:=Kz (gm.o.trans s.o);clear kV kX kZ lq lG lV l5 l6 l7 l8;refine(mM (U,X) (Y,Z,r2,r3,I,J) (dG,dz) _ (Rd.gr HG.o (tg dA)) (Rd.gr HR.o (tg dA)) (vo.o _)).mono ?_;rintro e w' ⟨es,vB,rfl,hr,-,x3,rfl⟩;have H:Gr C (C.ext x3):=gd;generalize C.ext x3=D0 at hr H ⊢;have hr:Rd.rd vB D0 es.toList ((jf (U,X) (Y,Z,r2,r3,I,J) (dG,dz)).getD dR):=hr;obtain⟨A,hA⟩:=nm ((jf (U,X) (Y,Z,r2,r3,I,J) (dG,dz)).getD dR);rw[←hA] at hr;have vC:=Kz hA;obtain⟨t0,V,t2,t3,rfl,rfl,-,vD,vE,vF⟩:=Ld hr;have rD:=Kz (show pO (jf (U,X) (Y,Z,r2,r3,I,J) (dG,dz))=V by unfold pO;rw[←vC.o]);have ma:=Kz (s.o.trans H);clear hA hr;replace K:=H.keep K;replace ah:=H.keep ah;replace O:=H.keep O;replace ai:=H.keep ai;replace aj:=H.keep aj;replace au:=H.keep au;replace ax:=H.keep ax;replace ay:=H.keep ay;replace zg:=blk K;replace zr:=blk O;replace c2:=H.keep c2;replace c3:=H.keep c3;replace c4:=H.keep c4;replace c5:=H.keep c5;replace c6:=H.keep c6;replace c7:=H.keep c7;replace c8:=H.keep c8;replace zc:=blk c2;have tJ:=Kz (dA.o.trans H);clear c0 c1 H;go_wp2_with fail;generalize hD:D0.alloc (.cells #[.string t0,.int .i64 V,.int .i64 t2,.bool t3] 81)=D;have H:Gr D0 D:=gb hD;have VA:=Kz (show az D D0.heap.size 81 [.string t0,.int .i64 V,.int .i64 t2,.bool t3] from by rw[←hD];exact az.new rfl);have a1:=VA.o.c 1;have za:=blk a1;replace K:=H.keep K;replace ah:=H.keep ah;replace O:=H.keep O;replace ai:=H.keep ai;replace aj:=H.keep aj;replace au:=H.keep au;replace ax:=H.keep ax;replace ay:=H.keep ay;replace zg:=blk K;replace zr:=blk O;replace c2:=H.keep c2;replace c3:=H.keep c3;replace c4:=H.keep c4;replace c5:=H.keep c5;replace c6:=H.keep c6;replace c7:=H.keep c7;replace c8:=H.keep c8;replace zc:=blk c2;have rE:=Kz (tJ.o.trans H);have vI:=Kz (aS.o.trans (ma.o.trans H));clear hD H;refine wg ?_
   iterate 8 (go_big_quiet_step (first|(go_at_call 249;refine aG (oO (U,X) (Y,Z,r2,r3,I,J) (dL,dU,dW,eH,fe,fu,fw) T _ (Rd.gr HG.o ?_) (Rd.gr HR.o ?_) (Rd.gr ve.o ?_) fK.o vv.o HT.o.symm)<;>exact rE.o.trans gd)))
   refine wq fun nx=>?_
   by_cases he:T=V
   ·have heq:(T !=V)=false:=by simp[he]
    have mf:=Kz he;clear he;go_wp2_with fail;exact⟨⟨k+1,by omega,Kz (jN.o (by rw[←fA.o];exact(HT.o.symm.trans mf.o).trans rD.o.symm)),Kz (tg vI),by go_num⟩,by simp[intOf];omega⟩
   ·have heq:(T !=V)=true:=by simpa using he
    have mf:=Kz he;clear he;go_wp2_with fail;go_ret;exact⟨aa (by rw[bz (show¬kW (U,X) (Y,Z,r2,r3,I,J) from fun h=>mf.o (by have h1:=h.1 _ gM.o;rw[←fA.o] at h1;exact(HT.o.trans h1).trans rD.o))];rfl),rE.o.trans gd⟩
  ·obtain rfl:k=I.length:=by omega
   rw[take_length] at HA;have vL:=HA;clear HA;go_wp2_with fail;clear K ah O ai aj au ax ay zg zr
   go_loopw [42] (fun s5 wr=>∃k:Nat,k≤J.length∧Ky (∀c∈J.take k,dZ (U,X) (Y,Z,r2,r3,I,J) (d+1) c.2.2.1=4∧dZ (U,X) (Y,Z,r2,r3,I,J) (d+1) c.2.2.2=2∧((ek ((bW U c.1).getD dE).2 c.2.1).getD dR).2.2.1=3)∧Ky (Gr B wr)∧s5=.int .i64 k) (fun s5 _=>J.length - (intOf s5).toNat)
   case atStart=>exact⟨0,by omega,Kz (by simp),aS,rfl⟩
   case round=>
    clear aS gm dC;obtain⟨k,hk,HA,aS,rfl⟩:=hrel
    rename World=>W2
    have dC:=rq.o.trans aS.o;have gm:=Kz dC;have vg:=VG.o.gr aS.o;have vr:=VR.o.gr aS.o;obtain⟨K,ah⟩:=vg.c2;obtain⟨O,ai,aj,au,ax,ay⟩:=vr.c6;have zg:=blk K;have zr:=blk O;clear vg vr
    by_cases aV:k<J.length
    ·have jN:=Kz (fun h=>dD aV HA.o h)
     have gM:=Kz (List.getElem_mem aV);have gF:=dI aI J aV;obtain⟨b,off,rfl,gH⟩:=sW k aV;obtain⟨q0,q1,aL,aZ,bg,bq,bB,bD,bH,aN,bK,bL,bN,bV,cK,cO,mh,mo,yh,mq,mr,ym,uW,fA,uZ,vN,vO,mH,mZ,nz,nM,nO,nP,nS,wF,wI,nZ,oh,oo,oq,ow,oz,oG,wK,wN,kV,kX,kZ,lq,lG,lV,l5,l6,l7,vR,uh,ui,um,uq,uw,uL,l8⟩:=KW qX aV dC
     have vU:q0.size+q1.size+ak (aL,aZ,bg,bq,bB,bD,bH)+ak (aN,bK,bL,bN,bV,cK,cO)≤1048576:=by
      have h2:=HL.o;rw[←fA.o] at gF;have h3:aI ((q0,q1,(aL,aZ,bg,bq,bB,bD,bH),(aN,bK,bL,bN,bV,cK,cO)):aD d)=q0.size+q1.size+ak (aL,aZ,bg,bq,bB,bD,bH)+ak (aN,bK,bL,bN,bV,cK,cO):=rfl;omega
     have oH:=Kz (show ak (aL,aZ,bg,bq,bB,bD,bH)≤1048576 by omega);have oK:=Kz (show ak (aN,bK,bL,bN,bV,cK,cO)≤1048576 by omega);clear gF vU;have oL:=Kz (bJ aL aZ bg bq bB bD bH mH mZ nz nM nO nP nS);have oN:=Kz (bJ aN bK bL bN bV cK cO nZ oh oo oq ow oz oG);obtain⟨T2,rR⟩:=nm (dZ (U,X) (Y,Z,r2,r3,I,J) (d+1) (aL,aZ,bg,bq,bB,bD,bH));obtain⟨T3,rT⟩:=nm (dZ (U,X) (Y,Z,r2,r3,I,J) (d+1) (aN,bK,bL,bN,bV,cK,cO));have gT:=Kz rR;have ik:=Kz rT;have k0:(0:Int)≤(k:Int):=by omega
     have k1:(k:Int)<(J.length:Int):=by omega
     have iw:=zI1 k (by omega);clear dC vN vO mH mZ nz nM nO nP nS nZ oh oo oq ow oz oG rR rT;go_wp2_with fail;generalize hC:(W2.alloc (.cells #[.string q0,.string q1,.int .i64 aL,.int .i64 aZ,.int .i64 bg,.int .i64 bq,.string bB,.string bD,.slice mh bH.length mo,.int .i64 aN,.int .i64 bK,.int .i64 bL,.int .i64 bN,.string bV,.string cK,.slice mq cO.length mr] 213))=C;have gC:Gr W2 C:=gb hC;have VC:=Kz (show az C W2.heap.size 213 [.string q0,.string q1,.int .i64 aL,.int .i64 aZ,.int .i64 bg,.int .i64 bq,.string bB,.string bD,.slice mh bH.length mo,.int .i64 aN,.int .i64 bK,.int .i64 bL,.int .i64 bN,.string bV,.string cK,.slice mq cO.length mr] from by rw[←hC];exact az.new rfl);have s:=Kz gC;clear hC gC;replace K:=s.o.keep K;replace ah:=s.o.keep ah;replace O:=s.o.keep O;replace ai:=s.o.keep ai;replace aj:=s.o.keep aj;replace au:=s.o.keep au;replace ax:=s.o.keep ax;replace ay:=s.o.keep ay;replace zg:=blk K;replace zr:=blk O;have dA:=Kz (gm.o.trans s.o);clear kV kX kZ lq lG lV l5 l6 l7 vR uh ui um uq uw uL l8;refine(dY (U,X) q0 _ (Rd.gr HG.o dA.o)).mono ?_;rintro e w' ⟨es,fq,rfl,hr,-,x1,rfl⟩;have H:Gr C (C.ext x1):=gd;generalize C.ext x1=D at hr H ⊢;obtain⟨s0,s1,sw,sG,ze,oV,rfl,-,zf,zi,yo,yu⟩:=Lg (x:=(bW U q0).getD dE) hr;have vV:=Kz oV;have vW:=Lt oV hr;clear hr oV;obtain⟨bb,gH⟩:∃b:Bool,b=(bW U q0).isSome:=⟨_,rfl⟩;rw[←gH];have zl:=Kz gH;clear gH;have vc:=VC.o.gr H;have c1:=vc.c 1;have zc:=blk c1;have ma:=Kz H;clear vc H;go_wp2_with fail;refine(jA (s0,s1) q1 _ (Rd.gr vW.o gd)).mono ?_;rintro e w' ⟨es,fq,rfl,hr,-,x2,rfl⟩;have gE:Gr D ((D.alloc (.cells #[.string s0,.slice sw s1.length sG] 104)).ext x2):=gd;generalize(D.alloc (.cells #[.string s0,.slice sw s1.length sG] 104)).ext x2=E at hr gE ⊢;obtain⟨t0,t1,t2,t3,oW,rfl,-,vD,vE,vF⟩:=Ld (x:=(ek s1 q1).getD dR) hr;have sH:=Kz oW;have zm:=Lt oW hr;clear hr oW;obtain⟨cc,o9⟩:∃b:Bool,b=(ek s1 q1).isSome:=⟨_,rfl⟩;rw[←o9];have vX:=Kz o9;clear o9;have sN:=Kz (show((ek ((bW U q0).getD dE).2 q1).getD dR).2.2.1=t2 by rw[←vV.o];show((ek s1 q1).getD dR).2.2.1=t2;rw[←sH.o])
     have zn:=Kz (show cc=false→t2=0 from fun h=>by
      have h1:=vX.o;rw[h] at h1;have h2:=sH.o
      cases hl:ek s1 q1 with
      |none=>rw[hl] at h2;exact congrArg (fun a:aQ=>a.2.2.1) h2
      |some a=>rw[hl] at h1;cases h1)
     have s:=Kz (ma.o.trans gE);have ae:=Kz (dA.o.trans s.o);have uR:=Kz (aS.o.trans (show Gr W2 E from(by assumption:Ky (Gr W2 C)).o.trans s.o));clear c1 zc gE;replace K:=s.o.keep K;replace ah:=s.o.keep ah;replace O:=s.o.keep O;replace ai:=s.o.keep ai;replace aj:=s.o.keep aj;replace au:=s.o.keep au;replace ax:=s.o.keep ax;replace ay:=s.o.keep ay;replace zg:=blk K;replace zr:=blk O;have vc:=VC.o.gr s.o;have c2:=vc.c 2;have c3:=vc.c 3;have c4:=vc.c 4;have c5:=vc.c 5;have c6:=vc.c 6;have c7:=vc.c 7;have c8:=vc.c 8;have c9:=vc.c 9;have c10:=vc.c 10;have c11:=vc.c 11;have c12:=vc.c 12;have c13:=vc.c 13;have c14:=vc.c 14;have c15:=vc.c 15;have zc:=blk c2;clear vc
     by_cases hp:t2=3∧T2=4∧T3=2
     ·obtain⟨rfl,rfl,rfl⟩:=hp
      go_wp2_with (first|(go_at_call_of 249 aL;refine(oO (U,X) (Y,Z,r2,r3,I,J) (aL,aZ,bg,bq,bB,bD,bH) 4 _ (Rd.gr HG.o (tg ae)) (Rd.gr HR.o (tg ae)) (Rd.gr oL.o (tg ae)) fK.o oH.o gT.o.symm).mono ?_;rintro e w' ⟨rfl,x5,rfl⟩)|(go_at_call_of 249 aN;refine(oO (U,X) (Y,Z,r2,r3,I,J) (aN,bK,bL,bN,bV,cK,cO) 2 _ (Rd.gr HG.o (tg ae)) (Rd.gr HR.o (tg ae)) (Rd.gr oN.o (tg ae)) fK.o oK.o ik.o.symm).mono ?_;rintro e w' ⟨rfl,x6,rfl⟩))
      exact⟨⟨k+1,by omega,Kz (jN.o (by rw[←fA.o];exact⟨gT.o.symm,ik.o.symm,sN.o⟩)),Kz (tg uR),by go_num⟩,by simp[intOf];omega⟩
     ·have HP:=Kz hp
      have HF:=Kz (bz (show¬kW (U,X) (Y,Z,r2,r3,I,J) from fun h=>HP.o (by
       have h1:=h.2 _ gM.o;rw[←fA.o] at h1;have h3:t2=3:=sN.o.symm.trans h1.2.2;exact⟨h3,gT.o.trans h1.1,ik.o.trans h1.2.1⟩)))
      clear hp
      go_wp2_with (first|(go_at_call_of 249 aL;refine(oO (U,X) (Y,Z,r2,r3,I,J) (aL,aZ,bg,bq,bB,bD,bH) T2 _ (Rd.gr HG.o (tg ae)) (Rd.gr HR.o (tg ae)) (Rd.gr oL.o (tg ae)) fK.o oH.o gT.o.symm).mono ?_;rintro e w' ⟨rfl,x5,rfl⟩)|(go_at_call_of 249 aN;refine(oO (U,X) (Y,Z,r2,r3,I,J) (aN,bK,bL,bN,bV,cK,cO) T3 _ (Rd.gr HG.o (tg ae)) (Rd.gr HR.o (tg ae)) (Rd.gr oN.o (tg ae)) fK.o oK.o ik.o.symm).mono ?_;rintro e w' ⟨rfl,x6,rfl⟩))
      go_ways
      all_goals first
       |(go_ret;exact⟨aa (by rw[HF.o];rfl),ae.o.trans gd⟩)
       |(exfalso;refine HP.o ⟨?_,?_,?_⟩<;>first|assumption|(simp_all;done)|(simp_all;omega))
      
    ·obtain rfl:k=J.length:=by omega
     rw[take_length] at HA;go_wp2_with fail;go_ret;exact⟨aa (by rw[bQ (show kW (U,X) (Y,Z,r2,r3,I,J) from⟨vL.o,HA.o⟩)];rfl),gm.o⟩
end Go.Proofs.YtdhighcpmcdmmaaGreat
