/- Contracts and laws towards ReadsOf, part 39 of 54. No condition. -/
import Derived.Test.YtdhighcpmcdmmaaGreatFx39
set_option maxHeartbeats 32000000
set_option maxRecDepth 10000
set_option linter.unusedVariables false
set_option linter.unusedSimpArgs false
namespace Go.Proofs.YtdhighcpmcdmmaaGreat
open Go.RowKit
open _root_.List (take_length)
variable{d:Nat}
set_option maxRecDepth 100000 in
theorem yM{fg:List Nat}{cg:Array Value}(g:(af d)){ft:List Nat}{ct:Array Value}(t:fU)(w:World)(D:Rd.rd fg w cg.toList g)(ht:Rd.rd ft w ct.toList t)(hl:aP g≤1048576)(fu:t.length≤1048576):
  Calls Tryz.prog 25 #[.agg cg,.agg ct] w (p8 w (bU g t)):=by
 obtain⟨i0,hi⟩:=info_parts Tryz.o6;have HZ:=Kz hi;clear hi;have I:=Kz hl;have fw:=Kz fu;clear hl fu;have HG:=Kz D;obtain⟨q,s,U,X,qE,Z,ae,qG,rfl,rfl,-,qN,oK,oL,qR,oN,oV⟩:=yt D;clear D;have HT:=Kz ht;obtain⟨t0,ah,ai,qV,rfl,rfl,-,fA,oW,o9⟩:=K8 ht;have kL:=fA.op3;clear ht
 by_cases aj:fP (q,s) t0=true
 ·have bD:=Kz aj
  have hlen:t0.length≤16:=(jv.1 aj).1.2;have bH:=Kz (fun x:Ext=>iC (q,s) t0 0 ((((w.alloc (.cells #[.slice U q.length X,.slice Z s.length ae] 36)).alloc (.cells #[.slice ah t0.length ai] 40)).alloc (.cells #[] 63)).ext x) (Rd.gr HG.o gd) (Rd.gr HT.o gd) I.o);have bK:=Kz (fun x:Ext=>(lS (q,s) t0 (zB (q,s) t0 0) ((((w.alloc (.cells #[.slice U q.length X,.slice Z s.length ae] 36)).alloc (.cells #[.slice ah t0.length ai] 40)).alloc (.cells #[] 63)).ext x) (Rd.gr HG.o gd) (Rd.gr HT.o gd) I.o fw.o).mono fun e w' h=>(show e=.returned (.bool true)∧_ from⟨by rw[h.1,show kY (q,s) t0 (zB (q,s) t0 0)=true from bD.o],h.2⟩));clear aj;go_in;go_wp2_with fail;refine wg ?_
  repeat(go_big_quiet_step (first|(go_at_call 38;exact aG (bH.o _))|(go_at_call 37;exact aG (bK.o _))))
  refine wq fun x1=>?_
  go_wp2_with fail;generalize hB:((w.alloc (.cells #[.slice U q.length X,.slice Z s.length ae] 36)).alloc (.cells #[.slice ah t0.length ai] 40))=B;have gB:Gr w B:=gb hB;obtain⟨fK,gm⟩:=kb2 hB (w.heap.size) (.slice U q.length X) (.slice Z s.length ae);have gD:=kb hB (w.heap.size+1) 0 (.slice ah t0.length ai);have sB:B.heap.size=w.heap.size+2:=szB hB;clear hB
  go_loopw [6,5] (fun bL s5 wr=>∃(k:Nat) (fps:List (List Nat)),k≤t0.length∧Ky (fps.flatten=[])∧Gr B wr∧bE (α:=av) B 63 wr s5 fps ((t0.take k).flatMap (ll (q,s)))∧bL=.int .i64 k) (fun bL _ _=>t0.length - (intOf bL).toNat)
  case atStart=>exact⟨0,[],by omega,Kz rfl,gd,(bE.kF (α:=av) (w0:=B) (w:=B) 63 (Nat.le_refl _) (by omega)).gr gd,rfl⟩
  case round=>
   obtain⟨k,fps,hk,HF,D,hown,rfl⟩:=hrel
   rename World=>W1
   have E:=Kz D;have HO:=Kz hown;obtain⟨J,rc,H⟩:=hown.form;obtain⟨L,hL⟩:=nm ((t0.take k).flatMap (ll (q,s)));have qX:L.length≤16777216:=by rw[hL];exact yZ I.o bD.o k
   rw[←hL] at H;have HL:=Kz hL;have y0:=fK _ D;have y1:=gm _ D;have y2:=gD _ D;have kQ:=blk y0;have kS:=blk y2;subst H;clear D hown hL
   by_cases O:k<t0.length
   ·have gF:Gr w W1:=gB.trans E.o
    have kT:=Kz gF;obtain⟨b,off,rfl,aV⟩:=kL k O;obtain⟨q0,q1,q2,q3,q4,q5,rf,rq,rD,rE,gH,rR,gM,kV,kX,kZ,lq,lG,pG,pM,lV,l5,l6,l7,l8,ma,rT⟩:=KZ fA O (Gr.refl _);have mf:=Kz gM;have mh:=lV;clear l5 l6 l7 l8 ma;clear gF gM kV kX kZ lq lG;have j0:(0:Int)≤(k:Int):=by omega
    have j1:(k:Int)<(t0.length:Int):=by omega
    have hs:zB (q,s) t0 (k:Int)=leftOf (q,s) (q0,q1,q2,q3,q4,q5):=by unfold zB;rw[gG O,←gH.o]
    have HS:=Kz hs;obtain⟨Y,hY⟩:=nm ((bW q (leftOf (q,s) (q0,q1,q2,q3,q4,q5))).getD dE);have bN:=Kz hY;clear hs hY;go_wp2_with fail;obtain⟨W5,aZ⟩:=nm (W1);have g5:Gr W1 W5:=by rw[aZ];exact Gr.refl _
    have sw:W5.heap.size=W1.heap.size:=by rw[aZ]
    rw[←aZ];have k0:=fun(w':World) (h:Gr W5 w')=>h.keep (g5.keep y0)
    have k1:=fun(w':World) (h:Gr W5 w')=>h.keep (g5.keep y1)
    have k2:=fun(w':World) (h:Gr W5 w')=>h.keep (g5.keep y2)
    have gT:=Kz g5;have ax:=Kz (kT.o.trans g5);clear aZ g5
    go_cut [7] (fun s8 wr=>mK w W5 Y s8 wr)
    case first=>
     go_region_held3 (fun w'=>Gr W5 w') (exact ga)
      (first|(go_at_call 38;refine(iC (q,s) t0 (k:Int) _ (Rd.gr HG.o (ax.o.trans ga)) (Rd.gr HT.o (ax.o.trans ga)) I.o).mono ?_;rintro e w' ⟨rfl,x2,rfl⟩;rw[HS.o])|(go_at_call 59;refine(dX (q,s) (leftOf (q,s) (q0,q1,q2,q3,q4,q5)) _ (Rd.gr HG.o (ax.o.trans ga)) I.o).mono ?_;rintro e w' ⟨es,fq,rfl,hr,ik,x3,rfl⟩;obtain⟨r0,r1,mo,mq,iw,bV,rfl,mr,mH,cK,pR,pV⟩:=Lg (x:=(bW q (leftOf (q,s) (q0,q1,q2,q3,q4,q5))).getD dE) hr;have mZ:=Kz bV;have sG:=Lt bV hr;clear hr bV;obtain⟨bb,aV⟩:∃b:Bool,b=(bW q (leftOf (q,s) (q0,q1,q2,q3,q4,q5))).isSome:=⟨_,rfl⟩;rw[←aV];have sH:=Kz aV;clear aV;have nz:=Kz ik;clear ik))
     all_goals
      go_wp2_with fail;go_meet;have hY:Y=(r0,r1):=bN.o.trans mZ.o.symm;subst hY;have cO:∀c∈iw,c<w.heap.size∨_≤c:=fun c hc=>(nz.o c (by rw[mr.o];simpa using hc)).imp (Rd.lt HG.o c) id
      have sN:=ax.o.size;refine⟨_,.slice mo r1.length mq,iw,rfl,gd,?_,?_,?_,mH,by first|omega|(simp;done)|(simp;omega),fun c hc=>(cO c hc).imp id (fun h=>by simp at h;omega)⟩
      ·exact kd
      ·exact kd
      ·first
        |(refine cK.gr ?_;(repeat(first|exact Gr.refl _|apply Gr.ext|apply Gr.alloc|apply Gr.drew));done)
        |((with_reducible refine cK.mono (dO ?_));exact fun c hc e=>by subst e;have:=cO _ hc;simp at this;omega)
        |((with_reducible refine cK.mono (dM ?_));exact fun c hc e=>by subst e;have:=cO _ hc;simp at this;omega)
    case rest=>
     obtain⟨b8,v8,fr,rfl,dz,d0,d1,sl,-,p9,aL⟩:=hcut
     rename World=>W6
     obtain⟨ay,ky,rfl,sO,sW,nM⟩:=sl.open;have z0:=blk d0;have bg:=Kz sl;have dA:=Kz dz;have tJ:Y.2.length≤1048576:=by have:=I.o;rw[bN.o];exact xn (Nat.le_trans (Nat.le_add_right _ _) this) _
     have jN:∀b,(Value.slice J L.length rc).ownBlock=some b→B.heap.size≤b∧b<W1.heap.size:=HO.o.base;have jX:=Kz jN;have uh:=dz.size
     have dC:∀c∈fr,c∉(Value.slice J L.length rc).ownBlock.toList:=fun c hc hm=>by
      have h1:=jX.o c (by simpa using hm);have:=gB.size;rcases aL c hc with h|h<;>omega
     have aS:=Kz dC;have j4:b8∉(Value.slice J L.length rc).ownBlock.toList:=fun hm=>by have:=jX.o b8 (by simpa using hm);omega
     have dG:=Kz j4;obtain⟨O0,dL⟩:=nm ((Value.slice J L.length rc).ownBlock);rw[←dL] at aS dG;have nO:=Kz dL;clear k0 k1 k2 sl dz jN dC j4 aL dL;go_wp2_with fail
     go_loopw [9,5] (fun dU s5 wr=>∃(j:Nat) (fps:List (List Nat)),j≤Y.2.length∧Ky (fps.flatten=[])∧Gr B wr∧Wr O0.toList W6 wr∧Ky (s5.ownBlock=O0∨∃n,s5.ownBlock=some n∧W6.heap.size≤n)∧bE (α:=av) B 63 wr s5 fps (L++(Y.2.take j).map (fun a=>(q0,a.1)))∧dU=.int .i64 j) (fun dU _ _=>Y.2.length - (intOf dU).toNat)
     case atStart=>exact⟨0,fps,by omega,HF,E.o.trans (gT.o.trans dA.o),Wr.refl _ _,Kz (.inl nO.o.symm),by simpa[HL.o] using HO.o.gr (gT.o.trans dA.o),rfl⟩
     case round=>
      obtain⟨j,fps,hj,HF,D,bq,HV,hown,rfl⟩:=hrel
      rename World=>T
      have E:=Kz D;have j5:=Kz bq;have HO:=Kz hown;obtain⟨J,rc,H⟩:=hown.form;obtain⟨M,hM⟩:=nm (L++(Y.2.take j).map (fun a=>(q0,a.1)));have ui:M.length≤17825792:=by rw[hM,List.length_append,List.length_map,List.length_take];omega
      rw[←hM] at H;have HM:=Kz hM;have y0:=fK _ D;have y1:=gm _ D;have y2:=gD _ D;have kQ:=blk y0;have kS:=blk y2;have e5:=bq.aO d1 dG.o;have um:=blk e5;have aN:=bg.o.wr bq aS.o;have nP:=Kz aN;clear D bq hown hM aN;subst H
      by_cases au:j<Y.2.length
      ·have O:=au
       have aN:=nP.o;obtain⟨bp,qo,rfl,qD⟩:=nM j O;obtain⟨p0,p1,p2,p3,nS,uq,ku,nZ,oh,oo,uw,uL,uR,uW⟩:=K5 aN O (Gr.refl _);have kz:=Kz (And.intro mf.o ku);clear aN ku nZ oh;have uZ:(0:Int)≤(j:Int):=by omega
       have ve:(j:Int)<(Y.2.length:Int):=by omega
       go_wp2_with fail
       have dW:∀c,c<W6.heap.size→c∉O0.toList→c∉(Value.slice J M.length rc).ownBlock.toList:=fun c hc hn hm=>by
        rcases HV.o with e|⟨n,e,vo⟩
        ·rw[e] at hm;exact hn hm
        ·rw[e] at hm;simp at hm;omega
       have eH:=dW b8 z0 dG.o;have fe:=dW bp (bg.o.lt bp (bg.o.vY (by intro e;rw[e] at au;simp at au))) (aS.o bp (bg.o.vY (by intro e;rw[e] at au;simp at au)));have vv:=fun(w':World) (h:Wr (Value.slice J M.length rc).ownBlock.toList T w')=>(⟨h.aO e5 eH,h.aO oo fe⟩:_∧_)
       have vB:=fun(w':World) (h:Gr B w')=>(gB.trans h).keep mh
       clear dW eH fe;refine eB (fun w'=>Wr (Value.slice J M.length rc).ownBlock.toList T w'∧Gr B w') 16 (by kernel_rfl) (⟨(Gr.drew (Gr.refl T)).eF _,E.o.drew⟩) (fun hU=>?_);refine bR 0 ?_;refine bR 1 ?_;refine bR 3 ?_;refine bR 7 ?_;refine bR 9 ?_;refine bR 2 ?_;refine bR 8 ?_;refine bR 4 ?_;refine bR 10 ?_;refine bR 5 ?_;refine bR 11 ?_;refine bR 6 ?_;refine bR 12 ?_;refine bR 13 ?_;refine dw [14] ?_;refine(bf.cons rfl (fun K hK=>?_) bf.nil);go_simp;refine hK.out _ _ ⟨(gd:Gr T ((T.alloc (.cells #[.int .i64 q0,.string p0] 63)).drew)).eF _,E.o.trans gd⟩ (fun vC=>?_);clear hK K
       try simp only[Act.put,uq1,uq2,uq3]
       refine dw [15] ?_
       refine(bf.cons rfl (fun K hK=>?_) bf.nil);refine gU (α:=av) (wg:=B) (w0:=B) (tg E) (Nat.le_refl _) (tg E).size (by rfl) _ _ _ (by rfl) 63 i0 _ _ Tryz.underlying58 HZ.o.1 HZ.o.2.1 HZ.o.2.2.1 HZ.o.2.2.2 rfl (.slice J M.length rc) fps _ (by rfl) (HO.o.gr gd) _ [[]] [(q0,p0)] (by rfl) ((eT.one (w:=T) (g:=T.heap.size) rfl (bZ q0 p0 kz.o.1 kz.o.2)).gr gd) (fun b _=>by simp) (by rw[←HM.o];unfold maxLen;simp;omega) (by rw[←HM.o];simp;omega) ?_;intro v9 w9 k1 k2 k3 k4
       replace k1:=Kz k1;have oq:Wr (Value.slice J M.length rc).ownBlock.toList T w9:=((gd:Gr T ((T.alloc (.cells #[.int .i64 q0,.string p0] 63)).drew)).eF _).trans k2;replace k2:=Kz k2;replace k3:=Kz k3;replace k4:=Kz k4;refine hK.out _ _ ⟨oq,k4.o⟩ (fun vD=>?_);clear hK K
       try simp only[Act.put,uq1,uq2,uq3]
       refine dw [16] ?_
       refine bf.last rfl (fun K hK=>?_)
       go_simp;refine hK.out _ _ ?_;clear hK K
       try simp only[Act.put,uq1,uq2,uq3]
       refine fF (by kernel_rfl) ?_ _
       go_wp2_with fail;have bB:Wr (Value.slice J M.length rc).ownBlock.toList _ w9:=k2.o;have kE:v9.ownBlock=(Value.slice J M.length rc).ownBlock∨_:=k3.o;have ow:=Kz bB;have oz:=Kz kE;clear bB kE;refine⟨⟨j+1,fps++[[]],by omega,Kz (by rw[List.flatten_append,HF.o];rfl),k4.o,j5.o.more HV.o (((gd:Gr T _).eF _).trans ow.o),Kz (tq HV.o oz.o (Nat.le_trans j5.o.size (by simp<;>omega))),?_,by go_num⟩,by simp[intOf];omega⟩
       have e:L++(Y.2.take (j+1)).map (fun a=>(q0,a.1))=M++[(q0,p0)]:=by
        rw[List.take_succ_eq_append_getElem au,List.map_append,←List.append_assoc,←HM.o,←nS.o];rfl
       have h1:=k1.o;rw[←HM.o] at h1;rw[e];exact h1
      ·have oG:j=Y.2.length:=by omega
       subst oG;go_wp2_with fail;refine⟨⟨k+1,fps,by omega,HF,E.o.trans gd,?_,by go_num⟩,by simp[intOf];omega⟩
       have e:(t0.take (k+1)).flatMap (ll (q,s))=M:=by
        rw[List.take_succ_eq_append_getElem O,List.flatMap_append,←HL.o,HM.o,take_length,←gH.o,List.flatMap_cons,List.flatMap_nil,List.append_nil];unfold ll;rw[←bN.o]
       have h1:=HO.o;rw[←HM.o] at h1;rw[e];exact h1.gr gd
   ·have bB:k=t0.length:=by omega
    subst bB;have hI:bU (q,s) t0=L:=by unfold bU;rw[if_pos bD.o,HL.o,take_length]
    have HI:=Kz hI;have aL:=HO.o.fresh (by rw[←HL.o];unfold bn;omega) (by rw[HF.o];exact aY.nil _);rw[←HL.o] at aL;obtain⟨fq,hs,hf⟩:=aL;have HS:=Kz hs;have oH:=Kz (hf.of_le gB.size);clear hI hs hf;go_wp2_with fail;go_ret;exact⟨_,fq,rfl,by rw[HI.o];exact HS.o.gr gd,oH.o,gB.trans (tg E)⟩
 ·have hI:bU (q,s) t0=[]:=by unfold bU;rw[if_neg aj]
  have HI:=Kz hI;have hb:fP (q,s) t0=false:=eq_false_of_ne_true aj;have HB:=Kz hb;have bH:=Kz (fun x:Ext=>iC (q,s) t0 0 ((((w.alloc (.cells #[.slice U q.length X,.slice Z s.length ae] 36)).alloc (.cells #[.slice ah t0.length ai] 40)).alloc (.cells #[] 63)).ext x) (Rd.gr HG.o gd) (Rd.gr HT.o gd) I.o);have bK:=Kz (fun x:Ext=>(lS (q,s) t0 (zB (q,s) t0 0) ((((w.alloc (.cells #[.slice U q.length X,.slice Z s.length ae] 36)).alloc (.cells #[.slice ah t0.length ai] 40)).alloc (.cells #[] 63)).ext x) (Rd.gr HG.o gd) (Rd.gr HT.o gd) I.o fw.o).mono fun e w' h=>(show e=.returned (.bool false)∧_ from⟨by rw[h.1,show kY (q,s) t0 (zB (q,s) t0 0)=false from HB.o],h.2⟩));clear hI aj hb;go_in;go_wp2_with fail;refine wg ?_
  repeat(go_big_quiet_step (first|(go_at_call 38;exact aG (bH.o _))|(go_at_call 37;exact aG (bK.o _))))
  refine wq fun x1=>?_
  go_wp2_with fail;go_ret;exact⟨_,[],rfl,by rw[HI.o];exact⟨_,0,rfl,by simp,by simp,.inl ⟨rfl,rfl⟩⟩,aY.nil _,gd⟩
def IE(d:Nat):Prop:=∀(fg fr:List Nat) (cg cr:Array Value) (g:af d) (r:aW d) (w:World) (q:Rd.rd fg w cg.toList g) (s:Rd.rd fr w cr.toList r) (B:aP g≤1048576) (h:bF r≤1048576),
 Calls Tryz.prog 248 #[.agg cg,.agg cr] w fun e w'=>e=.returned (.bool (!pB (kH g r)))∧Gr w w'
theorem yJ(fp:List Nat)(cs:Array Value)(x:aQ)(w:World)(q:Rd.rd fp w cs.toList x):Qz 244 (#[.agg cs]++#[]) w (.bool (decide (x.2.2.1=1))):=by
 obtain⟨q0,q1,q2,q3⟩:=x;obtain⟨rfl,-,-,-,-⟩:=aR (cs:=cs) q0 q1 q2 q3 q;clear q
 show Calls Tryz.prog 244 #[.agg _] w _
 (try delta Qz);go_in;go_wp2_with fail;go_ret;refine⟨aa ?_,gd⟩
 by_cases h:q2=1<;>simp[h]
theorem Am(bg:IE d){fg:List Nat}{cg:Array Value}(g:af d)(w:World)(hg:Rd.rd fg w cg.toList g)(hl:aP g≤1048576):
  Calls Tryz.prog 199 #[.agg cg] w (Fg g w):=by
 have Y:=Kz hl;have bq:=Kz bg;clear bg;have HG:=Kz hg;obtain⟨D,q,bK,bL,l8,bN,bV,ma,rfl,rfl,-,cK,kQ,kS,cO,kT,kV⟩:=yt hg;have gm:=cK.op3;have gD:=cO.op3;clear hg;have dz:wtL bM D+wtL bF q≤1048576:=hl;have mf:D.length≤1048576:=by have:=bT bM D;omega
 have mh:q.length≤1048576:=by have:=bT bF q;omega
 have HL:=Kz dz;clear hl dz
 by_cases ah:(1≤(D.length:Int)∧(D.length:Int)≤4)∧(1≤(q.length:Int)∧(q.length:Int)≤8)
 ·have dA:(decide (1≤(D.length:Int))&&decide ((D.length:Int)≤4))=true:=by rw[decide_eq_true ah.1.1,decide_eq_true ah.1.2];rfl
  have dC:(decide (1≤(q.length:Int))&&decide ((q.length:Int)≤8))=true:=by rw[decide_eq_true ah.2.1,decide_eq_true ah.2.2];rfl
  have ay:=Kz ah;have h00:0<D.length:=by omega
  have Z:=h00;have mo:(0:Int)<(D.length:Int):=by omega
  clear ah;go_in
  go_wp2_with (first|(go_at_call_of 101 D;refine(di _ _ _ _).mono ?_;rintro e w' ⟨rfl,rfl⟩;rw[dA])|(go_at_call_of 101 q;refine(di _ _ _ _).mono ?_;rintro e w' ⟨rfl,rfl⟩;rw[dC]))
  refine(Ca _ _ (D,q) _ (Rd.gr HG.o gd) Y.o).mono ?_;rintro e w' ⟨bi,rfl,mq,mr,aL,x1,rfl⟩;have bB:=Kz aL;clear aL dA dC
  by_cases bD:0≤bi
  ·go_wp2_with fail
   exact bodyPost_ret (v:=.tuple #[.int .i64 1,.int .i64 bi]) (by simp[results,Tryz.results199,go_sem]) rfl ⟨1,bi,rfl,⟨fun h=>absurd h (by decide),fun h=>by have:=bB.o.2 h.2.2.1;omega⟩,gd⟩
  ·have gF:=Kz (bB.o.1 (by omega))
   have mH:¬(0≤bi):=bD;clear bB bD;generalize hB:(w.alloc (.cells #[.slice bK D.length bL,.slice bN q.length bV] 36)).ext x1=B0;have gB:Gr w B0:=gb hB;have dG:=Kz (show az B0 w.heap.size 36 [.slice bK D.length bL,.slice bN q.length bV] from by rw[←hB];exact kv);have au:=Kz gB;obtain⟨v0,v1⟩:=dG.o.c2;have zv:=blk v0;clear hB;obtain⟨b,off,rfl,aL⟩:=gm 0 Z;obtain⟨q0,q1,mZ,nz,nM,nO,dL,gH,gM,dU,kX,kZ,dW,eH,gT⟩:=K9 cK Z gB;simp only[Nat.zero_mul,Nat.add_zero,Nat.zero_add] at dW eH;have fe:=Kz dU;have fu:=Kz (show(q0,q1)=D[0]'h00 from dL.o);clear Z dL gH gM dU;have HT:=Kz (show∀W,TestAttribute W 244 #[] (fun a=>decide (a.2.2.1=1)) q1 from fun W=>⟨Tryz.call244,fun z _ x fp cs hr=>yJ fp cs z _ hr⟩);obtain⟨M,hM⟩:=nm (q1.any (fun a=>decide (a.2.2.1=1)));have HM:=Kz hM;clear hM
   cases M with
   |true=>
    go_wp2_with (first|(go_at_call 142;refine(gW _ _ q1 _ _ (fun a=>decide (a.2.2.1=1)) _ (fe.o.gr (tg au)) (HT.o _)).mono ?_;rintro e w' ⟨rfl,x2,rfl⟩;rw[←HM.o]))
    exact bodyPost_ret (v:=.tuple #[.int .i64 2,.int .i64 0]) (by simp[results,Tryz.results199,go_sem]) rfl ⟨2,0,rfl,⟨fun h=>absurd h (by decide),fun h=>by
     obtain⟨a,ha,h2⟩:=List.any_eq_true.1 HM.o.symm;have H:=h.2.2.2.1 (q0,q1) (by rw[fu.o];show D.head?=_;rw[List.head?_eq_getElem?];exact List.getElem?_eq_getElem h00) a ha;exact absurd (of_decide_eq_true h2) H⟩,au.o.trans gd⟩
   |false=>
    have ik:=Kz (show Du (D,q) from fun s hs a ha=>by
     have H:D.head?=some s:=hs;rw[List.head?_eq_getElem?,List.getElem?_eq_getElem h00] at H;injection H with H;rw[←H,←fu.o] at ha;have h2:=List.any_eq_false.1 HM.o.symm a ha;simpa using h2)
    go_wp2_with (first|(go_at_call 142;refine(gW _ _ q1 _ _ (fun a=>decide (a.2.2.1=1)) _ (fe.o.gr (tg au)) (HT.o _)).mono ?_;rintro e w' ⟨rfl,x2,rfl⟩;rw[←HM.o]))
    have aN:Gr B0 (B0.ext x2):=gd;generalize B0.ext x2=B at aN ⊢;have VG:=Kz (dG.o.gr aN);have fw:=Kz (au.o.trans aN);obtain⟨v0,v1⟩:=VG.o.c2;have zv:=blk v0;clear aN gB dW eH gT
    go_loopw [5] (fun s6 wr=>∃c:Int,3≤c∧c≤7∧Ky (∀r∈q,∀c':Int,3≤c'→c'<c→mG (D,q) r c'=false)∧Ky (Gr B wr)∧s6=.int .i64 c) (fun s6 _=>7 - (intOf s6).toNat)
    case atStart=>exact⟨3,by omega,by omega,Kz (fun r hr c' H h2=>by omega),Kz (Gr.refl _),rfl⟩
    case round=>
     clear v0 v1 zv;obtain⟨c,jN,nP,fA,I,rfl⟩:=hrel
     rename World=>W2
     have vg:=VG.o.gr I.o;obtain⟨y0,y1⟩:=vg.c2;have zy:=blk y0;have nS:IntKind.i64.wrap (c+1)=c+1:=IntWalk.i64_in _ (by omega);clear vg
     by_cases hc:c≤6
     ·go_wp2_with fail
      go_loopw [39] (fun s7 wr=>∃k:Nat,k≤q.length∧Ky (∀r∈q.take k,mG (D,q) r c=false)∧Ky (Gr B wr)∧s7=.int .i64 k) (fun s7 _=>q.length - (intOf s7).toNat)
      case atStart=>exact⟨0,by omega,Kz (by simp),I,rfl⟩
      case round=>
       clear y0 y1 zy I;obtain⟨k,hk,HA,I,rfl⟩:=hrel
       rename World=>W3
       have bH:=fw.o.trans I.o;have E:=Kz bH;have vg:=VG.o.gr I.o;obtain⟨y0,y1⟩:=vg.c2;have zy:=blk y0;clear vg
       by_cases Z:k<q.length
       ·have aS:=Kz (fun h=>dD Z HA.o h)
        have ax:=Kz (List.getElem_mem Z);have jX:=dI bF q Z;have j4:=Kz (show bF q[k]≤1048576 by have:=HL.o;omega);clear jX;obtain⟨b,off,rfl,aL⟩:=gD k Z;obtain⟨O,T,K,p3,U,X,nZ,oh,oo,oq,ow,oz,oG,oH,oK,oL,ae,ai,j5,ku,ky,lq,lG,kz,lV,l5,kE,l6,l7,oN,oV,oW,o9,pG,pM,pR⟩:=Lf cO Z bH;have aj:=Kz (show bF (O,T,K,p3,U,X)≤1048576 by rw[ae.o];exact j4.o)
        have fK:K.length≤1048576:=by
         have H:O.size+T.size+wtL ByteArray.size K+wtL aU U+wtL aI X≤1048576:=aj.o;have h2:=bT ByteArray.size K;omega
        have k0:(0:Int)≤(k:Int):=by omega
        have k1:(k:Int)<(q.length:Int):=by omega
        have iw:=zI1 k (by omega);obtain⟨M,hM⟩:=nm (mG (D,q) (O,T,K,p3,U,X) c);have J:=Kz hM;have aV:=Kz jN;have aZ:=Kz hc;clear bH hM j5 ku ky kz kE;have kL:c=3∨c=4∨c=5∨c=6:=by omega
        rcases kL with rfl|rfl|rfl|rfl
        ·have HX:=Kz (show(!pB (nV (D,q) (O,T,K,p3,U,X)))=M from J.o.symm)
         cases M with
         |false=>
          go_wp2_with (first|(go_at_call 245;refine(qg (D,q) (O,T,K,p3,U,X) _ (Rd.gr HG.o (tg E)) (Rd.gr ai.o (tg E)) Y.o fK).mono ?_;rintro e w' ⟨rfl,x5,rfl⟩;rw[HX.o]))
          exact⟨⟨k+1,by omega,Kz (aS.o (by rw[←ae.o];exact J.o.symm)),Kz (tg I),by go_num⟩,by simp[intOf];omega⟩
         |true=>
          go_wp2_with (first|(go_at_call 245;refine(qg (D,q) (O,T,K,p3,U,X) _ (Rd.gr HG.o (tg E)) (Rd.gr ai.o (tg E)) Y.o fK).mono ?_;rintro e w' ⟨rfl,x5,rfl⟩;rw[HX.o]))
          exact bodyPost_ret (v:=.tuple #[.int .i64 3,.int .i64 k]) (by simp[results,Tryz.results199,go_sem]) rfl ⟨3,k,rfl,⟨fun h=>by omega,fun h=>by
           have H:=h.2.2.2.2 _ ax.o 3 aV.o aZ.o;rw[←ae.o,←J.o] at H
           cases H⟩,E.o.trans gd⟩
        ·have HX:=Kz (show(!pB (FL (D,q) (O,T,K,p3,U,X)))=M from J.o.symm)
         cases M with
         |false=>
          go_wp2_with (first|(go_at_call 246;refine(LV (D,q) (O,T,K,p3,U,X) _ (Rd.gr HG.o (tg E)) (Rd.gr ai.o (tg E)) Y.o aj.o).mono ?_;rintro e w' ⟨rfl,x5,rfl⟩;rw[HX.o]))
          exact⟨⟨k+1,by omega,Kz (aS.o (by rw[←ae.o];exact J.o.symm)),Kz (tg I),by go_num⟩,by simp[intOf];omega⟩
         |true=>
          go_wp2_with (first|(go_at_call 246;refine(LV (D,q) (O,T,K,p3,U,X) _ (Rd.gr HG.o (tg E)) (Rd.gr ai.o (tg E)) Y.o aj.o).mono ?_;rintro e w' ⟨rfl,x5,rfl⟩;rw[HX.o]))
          exact bodyPost_ret (v:=.tuple #[.int .i64 4,.int .i64 k]) (by simp[results,Tryz.results199,go_sem]) rfl ⟨4,k,rfl,⟨fun h=>by omega,fun h=>by
           have H:=h.2.2.2.2 _ ax.o 4 aV.o aZ.o;rw[←ae.o,←J.o] at H
           cases H⟩,E.o.trans gd⟩
        ·have HX:=Kz (show(!pB (qd (D,q) (O,T,K,p3,U,X)))=M from J.o.symm)
         cases M with
         |false=>
          go_wp2_with (first|(go_at_call 247;refine(sD (D,q) (O,T,K,p3,U,X) _ (Rd.gr HG.o (tg E)) (Rd.gr ai.o (tg E)) Y.o aj.o).mono ?_;rintro e w' ⟨rfl,x5,rfl⟩;rw[HX.o]))
          exact⟨⟨k+1,by omega,Kz (aS.o (by rw[←ae.o];exact J.o.symm)),Kz (tg I),by go_num⟩,by simp[intOf];omega⟩
         |true=>
          go_wp2_with (first|(go_at_call 247;refine(sD (D,q) (O,T,K,p3,U,X) _ (Rd.gr HG.o (tg E)) (Rd.gr ai.o (tg E)) Y.o aj.o).mono ?_;rintro e w' ⟨rfl,x5,rfl⟩;rw[HX.o]))
          exact bodyPost_ret (v:=.tuple #[.int .i64 5,.int .i64 k]) (by simp[results,Tryz.results199,go_sem]) rfl ⟨5,k,rfl,⟨fun h=>by omega,fun h=>by
           have H:=h.2.2.2.2 _ ax.o 5 aV.o aZ.o;rw[←ae.o,←J.o] at H
           cases H⟩,E.o.trans gd⟩
        ·have HX:=Kz (show(!pB (kH (D,q) (O,T,K,p3,U,X)))=M from J.o.symm)
         cases M with
         |false=>
          go_wp2_with (first|(go_at_call 248;refine(bq.o _ _ _ _ (D,q) (O,T,K,p3,U,X) _ (Rd.gr HG.o (tg E)) (Rd.gr ai.o (tg E)) Y.o aj.o).mono ?_;rintro e w' ⟨rfl,x5,rfl⟩;rw[HX.o]))
          exact⟨⟨k+1,by omega,Kz (aS.o (by rw[←ae.o];exact J.o.symm)),Kz (tg I),by go_num⟩,by simp[intOf];omega⟩
         |true=>
          go_wp2_with (first|(go_at_call 248;refine(bq.o _ _ _ _ (D,q) (O,T,K,p3,U,X) _ (Rd.gr HG.o (tg E)) (Rd.gr ai.o (tg E)) Y.o aj.o).mono ?_;rintro e w' ⟨rfl,x5,rfl⟩;rw[HX.o]))
          exact bodyPost_ret (v:=.tuple #[.int .i64 6,.int .i64 k]) (by simp[results,Tryz.results199,go_sem]) rfl ⟨6,k,rfl,⟨fun h=>by omega,fun h=>by
           have H:=h.2.2.2.2 _ ax.o 6 aV.o aZ.o;rw[←ae.o,←J.o] at H
           cases H⟩,E.o.trans gd⟩
       ·obtain rfl:k=q.length:=by omega
        rw[take_length] at HA;go_wp2_with fail
        exact⟨⟨c+1,by omega,by omega,Kz (fun r hr c' H h2=>by
         by_cases h3:c'<c
         ·exact fA.o r hr c' H h3
         ·obtain rfl:c'=c:=by omega
          exact HA.o r hr),I,rfl⟩,by simp[intOf];omega⟩
     ·have HF:=Kz (show o7 (D,q) from⟨by have H:=ay.o.1;show 1≤D.length∧D.length≤4;omega,by have H:=ay.o.2;show 1≤q.length∧q.length≤8;omega,gF.o,ik.o,fun r hr c' H h2=>fA.o r hr c' H (by omega)⟩)
      have E:=Kz (fw.o.trans I.o);go_wp2_with fail;exact bodyPost_ret (v:=.tuple #[.int .i64 0,.int .i64 0]) (by simp[results,Tryz.results199,go_sem]) rfl ⟨0,0,rfl,⟨fun _=>HF.o,fun _=>rfl⟩,E.o⟩
 ·have ay:=Kz ah
  have HN:=Kz (show¬o7 (D,q) from fun h=>ay.o ⟨by have H:1≤D.length∧D.length≤4:=h.1;omega,by have H:1≤q.length∧q.length≤8:=h.2.1;omega⟩);clear ah;go_in
  go_wp2_with (first|(go_at_call_of 101 D;refine(di _ _ _ _).mono ?_;rintro e w' ⟨rfl,rfl⟩)|(go_at_call_of 101 q;refine(di _ _ _ _).mono ?_;rintro e w' ⟨rfl,rfl⟩))
  go_ways
  all_goals first
   |(exfalso;refine ay.o ⟨?_,?_⟩<;>first|assumption|(simp_all;done)|(simp_all;omega))
   |(exact bodyPost_ret (v:=.tuple #[.int .i64 1,.int .i64 0]) (by simp[results,Tryz.results199,go_sem]) rfl ⟨1,0,rfl,⟨fun h=>absurd h (by decide),fun h=>absurd h HN.o⟩,gd⟩)
  
end Go.Proofs.YtdhighcpmcdmmaaGreat
