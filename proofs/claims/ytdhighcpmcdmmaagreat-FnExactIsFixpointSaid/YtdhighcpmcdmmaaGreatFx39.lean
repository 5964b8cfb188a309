/- Contracts and laws towards ReadsOf, part 38 of 54. No condition. -/
import Derived.Test.YtdhighcpmcdmmaaGreatFx37
import Derived.Laws.IdiomCopy
set_option maxHeartbeats 32000000
set_option maxRecDepth 10000
set_option linter.unusedVariables false
set_option linter.unusedSimpArgs false
namespace Go.Proofs.YtdhighcpmcdmmaaGreat
open Go.RowKit
open _root_.List (map_take take_length)
open _root_.Nat (le_refl)
variable{d:Nat}
variable{b off cap len:Nat}{fp fg fr:List Nat}{w:World}{xs:List av}{cg cr:Array Value}
set_option maxRecDepth 100000 in
theorem MS(g:af d)(r:aW d)(w:World)(hg:Rd.rd fg w cg.toList g)(hr:Rd.rd fr w cr.toList r)(hl:aP g≤1048576)(hn:r.2.2.1.length≤1048576):
  Calls Tryz.prog 183 #[.agg cg,.agg cr] w (p8 w (zq g r)):=by
 obtain⟨i0,hi⟩:=info_parts Tryz.nX;have HZ:=Kz hi;clear hi;have ax:=Kz hl;clear hl;have HG:=Kz hg;obtain⟨I,J,bK,bL,oh,bN,bV,oo,rfl,rfl,-,oq,l7,l8,s,ma,mf⟩:=yt hg;clear hg;have HR:=Kz hr;obtain⟨K,O,q,T,U,X,cK,cO,ow,dz,dA,oz,dC,dG,oG,rfl,rfl,-,oH,oK,oL,mh,mo,oN,mq,mr,oV,mH,mZ⟩:=KV hr;clear hr;have oW:q.length≤1048576:=hn;have o9:IntKind.i64.wrap ((q.length:Int)+1)=(q.length:Int)+1:=IntWalk.i64_in _ (by omega);clear hn;go_in;go_wp2_with fail;generalize hB:((w.alloc (.cells #[.slice bK I.length bL,.slice bN J.length bV] 36)).alloc (.cells #[.string K,.string O,.slice cK q.length cO,.bool T,.slice dz U.length dA,.slice dC X.length dG] 112))=B;have gB:Gr w B:=gb hB;obtain⟨gm,gD⟩:=kb2 hB (w.heap.size) (.slice bK I.length bL) (.slice bN J.length bV);obtain⟨dL,gF,gH,gM,gT,ik⟩:=kb6 hB (w.heap.size+1) (.string K) (.string O) (.slice cK q.length cO) (.bool T) (.slice dz U.length dA) (.slice dC X.length dG);have sB:B.heap.size=w.heap.size+2:=szB hB;clear hB
 go_loopw [6,5] (fun s8 s7 wr=>∃(p:Nat) (fps:List (List Nat)),p≤q.length+1∧Ky (fps.flatten=[])∧Gr B wr∧bE (α:=ag) B 132 wr s7 fps ((List.range p).flatMap (occAt (I,J) (K,O,q,T,U,X)))∧s8=.int .i64 p) (fun s8 _ _=>q.length+1 - (intOf s8).toNat)
 case atStart=>exact⟨0,[],by omega,Kz rfl,gd,bE.kF (α:=ag) (w0:=B) (w:=B) 132 (le_refl _) (by omega),rfl⟩
 case round=>
  obtain⟨p,fps,hp,HF,s,hown,rfl⟩:=hrel;obtain⟨os,ah⟩:=nm ((List.range p).flatMap (occAt (I,J) (K,O,q,T,U,X)));rw[←ah] at hown
  have iw:os.length≤1048576*p:=by
   rw[ah];exact LK ax.o p
  have ay:=Kz ah.symm;have jN:=Kz iw;clear ah
  rename World=>W1
  have jX:=Kz s;have HO:=Kz hown;obtain⟨ra,rc,Y⟩:=hown.form;subst Y;have y0:=gm _ s;have y1:=gD _ s;have y2:=dL _ s;have y3:=gF _ s;have y4:=gH _ s;have y5:=gM _ s;have y6:=gT _ s;have y7:=ik _ s;have j4:=blk y0;have j5:=blk y2;have dU:=gB.trans s;have aL:=Kz dU;have ku:=Kz (show∀b∈(Value.slice ra os.length rc).ownBlock.toList,B.heap.size≤b∧b<W1.heap.size from fun b H=>hown.base b (by simpa using H));clear hown
  by_cases aN:p≤q.length
  ·have nz:(p:Int)≤(q.length:Int):=by omega
   have nM:(p:Int)<(q.length:Int)+1:=by omega
   have p0:(0:Int)≤(p:Int):=by omega
   have pG:=zI1 p (by omega);obtain⟨S,hS⟩:=nm (j6 (K,O,q,T,U,X) (p:Int));obtain⟨D,ai⟩:=nm (LU (I,J) S);have ky:=Kz (show D.length≤1048576 by rw[ai];exact Nat.le_trans (Lv _) (tX ax.o S));have pM:D.length≤1048576:=ky.o;have kz:=Kz (show occAt (I,J) (K,O,q,T,U,X) p=D.map fun a=>((p:Int),a.1) by rw[ai,hS];rfl);have kE:=Kz ai;have kL:=Kz hS;clear hS ai
   go_upto_region 5 with fail
   have kQ:=fun(w':World) (h:Gr W1 w')=>(⟨h.keep y0,h.keep y1,h.keep y2,h.keep y3,h.keep y4,h.keep y5,h.keep y6,h.keep y7⟩:_∧_∧_∧_∧_∧_∧_∧_)
   clear dU
   go_region_held3 (fun w'=>Gr W1 w') (exact ga)
    (first|(go_at_call 184;refine(iG (K,O,q,T,U,X) (p:Int) _ (Rd.gr HR.o (aL.o.trans ga))).mono ?_;rintro e w' ⟨rfl,x2,rfl⟩;rw[←kL.o])|(go_at_call 229;refine(MN (I,J) S _ (Rd.gr HG.o (aL.o.trans ga)) ax.o).mono ?_;rintro e w' ⟨v7,f7,rfl,aj,dW,x3,rfl⟩;rw[←kE.o] at aj;have eH:=Kz aj;have kS:=Kz dW;obtain⟨a7,k7,rfl,-,-,-⟩:=aj.open;clear aj dW))
   obtain⟨W2,aS⟩:=nm (((W1.drew.ext x2).ext x3));rw[←aS] at eH ⊢;have aV:Gr W1 W2:=by rw[aS];exact gd
   have kT:=Kz (jX.o.trans aV)
   have fA:=Kz (show∀b∈(Value.slice ra os.length rc).ownBlock.toList,b∉f7 from fun b H hm=>by
    have h1:=ku.o b H;have h2:=kS.o.2 b hm;simp at h2;omega)
   have kV:=eH;have kX:=Kz (HO.o.gr aV);clear aS aV kQ y0 y1 y2 y3 y4 y5 y6 y7 j4 j5;go_wp2_with fail
   go_loopw [8,5] (fun s8 s5 wr=>∃(j:Nat) (E:List (List Nat)),j≤D.length∧Ky (E.flatten=[])∧Ky (Gr B wr)∧bE (α:=ag) B 132 wr s5 E (os++(D.take j).map fun a=>((p:Int),a.1))∧Ky (SlR f7 wr (.slice a7 D.length k7) D)∧Ky (∀b∈s5.ownBlock.toList,b∉f7)∧s8=.int .i64 j) (fun s8 _ _=>D.length - (intOf s8).toNat)
   case atStart=>exact⟨0,fps,by omega,HF,kT,by rw[List.take_zero];show bE _ _ _ _ _ (os++[]);rw[List.append_nil];exact kX.o,kV,fA,rfl⟩
   case round=>
    obtain⟨j,E,hj,fe,au,hown,aZ,bg,rfl⟩:=hrel;obtain⟨ae,Z⟩:=nm (os++(D.take j).map fun a=>((p:Int),a.1));rw[←Z] at hown
    have nO:ae.length≤1048576*p+1048576:=by
     rw[Z,List.length_append,List.length_map,List.length_take];have h4:=jN.o;omega
    have bB:=Kz Z;clear Z
    rename World=>W3
    have fu:=Kz hown;obtain⟨rb,rd,Y⟩:=hown.form;subst Y;clear hown
    by_cases bD:j<D.length
    ·have bH:=aZ.o
     obtain⟨a',c',he,o1,o2,fK⟩:=bH.open;injection he with e1 e2 e3;subst e1 e3;have aN:=bD;obtain⟨bq,nP,rfl,nS⟩:=fK j aN;obtain⟨q0,q1,q2,q3,kZ,pR,fw,lq,lG,pV,p9,qo,qD,qE⟩:=K5 bH aN (Gr.refl _);have HQ:=Kz fw;have HX:=Kz (show os++(D.take (j+1)).map (fun a=>((p:Int),a.1))=ae++[((p:Int),q0)] by rw[List.take_succ_eq_append_getElem bD,List.map_append,←kZ.o,bB.o,List.append_assoc];rfl);have j0:(0:Int)≤(j:Int):=by omega
     have j1:(j:Int)<(D.length:Int):=by omega
     have qG:=zI1 j (by omega);clear fw lq lG bH
     go_wp2_with (first|(at_builtin;refine eU (α:=ag) (wg:=B) (w0:=B) (tg au) (le_refl _) (tg au).size rfl _ _ 129 rfl 132 i0 _ _ Tryz.underlying129 HZ.o.1 HZ.o.2.1 HZ.o.2.2.1 HZ.o.2.2.2 rfl _ E ae (by rfl) (fu.o.gr gd) _ [[]] [((p:Int),q0)] (by rfl) (eT.one (by simp) (bO _ q0 (jm (by omega) (by omega)) HQ.o)) (fun b _=>by simp) (by unfold maxLen;simp;omega) (by simp;omega) ?_;intro v3 w3 h1 h2 h3 h4;have K1:=Kz h1;have K4:=Kz h4;have K2:=Kz ((show Gr W3 _ from gd).eF _ |>.trans h2);have K3:=Kz (show∀b∈v3.ownBlock.toList,b∈(Value.slice rb ae.length rd).ownBlock.toList∨W3.heap.size≤b from fun b H=>h3.elim (fun e=>.inl (by rw[e] at H;exact H)) (fun e=>.inr (by rw[e] at H;simp at H;omega)));clear h1 h2 h3 h4))
     refine⟨⟨j+1,E++[[]],by omega,Kz (by rw[List.flatten_append,fe.o];rfl),K4,by rw[HX.o];exact K1.o,Kz (aZ.o.wr K2.o (fun b H hm=>(bg.o b hm) H)),Kz (fun b H=>?_),by go_num⟩,by simp[intOf];omega⟩;rcases K3.o b H with h|h
     ·exact bg.o b h
     ·have h9:=aZ.o.lt
      exact fun hm=>by have:=h9 b hm;omega
    ·have lV:j=D.length:=by omega
     subst lV;have l5:=Kz (show(List.range (p+1)).flatMap (occAt (I,J) (K,O,q,T,U,X))=ae by rw[bB.o,List.range_succ,List.flatMap_append,ay.o,List.flatMap_singleton,kz.o,take_length]);have y0:=dL _ au.o;go_wp2_with fail;refine⟨⟨p+1,E,by omega,fe,au.o,?_,by go_num⟩,by simp[intOf];omega⟩;rw[l5.o];exact fu.o
  ·have l6:p=q.length+1:=by omega
   have qN:¬((p:Int)≤(q.length:Int)):=by omega
   have nZ:¬((p:Int)<(q.length:Int)+1):=by omega
   obtain⟨fq,h1,h2⟩:=HO.o.fresh (by unfold bn;omega) (by rw[HF.o];exact aY.nil _);have H1:=Kz (show SlR fq W1 (.slice ra os.length rc) (zq (I,J) (K,O,q,T,U,X)) by rw[l6] at ay;unfold zq;rw[ay.o];exact h1);have H2:=Kz (h2.of_le gB.size);clear h1 h2;go_wp2_with fail;go_ret;exact⟨_,fq,rfl,H1.o,H2.o,aL.o⟩
def OO(W:World)(c:Bool)(s:Value)(wr:World):Prop:=∃b,s=.pointer (some ⟨b,0,none⟩)∧Gr W wr∧wr.cell? ⟨b,3,none⟩=some (.bool c)
theorem MZ{α:Type}{p:α→Bool}{xs:List α}{k:Nat}(h:k<xs.length):(xs.take (k+1)).filter p=(xs.take k).filter p++(if p xs[k] then[xs[k]] else[]):=by
 rw[List.take_succ_eq_append_getElem h,List.filter_append]
 cases q:p xs[k]<;>simp[q]
theorem Ph{g:af d}{r:aW d}(h:aP g≤1048576)(q:r.2.2.1.length≤15):(zq g r).length≤16777216:=by
 have s:=LK (r:=r) h (r.2.2.1.length+1);have B:(zq g r).length=((List.range (r.2.2.1.length+1)).flatMap (occAt g r)).length:=rfl;have D:=Nat.mul_le_mul_left 1048576 (show r.2.2.1.length+1≤16 by omega);omega
set_option maxRecDepth 100000 in
theorem M7(g:af d)(r:aW d)(w:World)(hg:Rd.rd fg w cg.toList g)(X:Rd.rd fr w cr.toList r)(hl:aP g≤1048576)(hn:r.2.2.1.length≤1048576):
  Calls Tryz.prog 121 #[.agg cg,.agg cr] w (p8 w (q8 g r)):=by
 obtain⟨i0,hi⟩:=info_parts Tryz.nX;have HZ:=Kz hi;clear hi;have aN:=Kz hl;have HN:=Kz hn;clear hl;have HG:=Kz hg;obtain⟨s,T,dz,dA,oN,dC,dG,oV,rfl,rfl,-,oW,nz,nM,o9,nO,nP⟩:=yt hg;clear hg;have HR:=Kz X;obtain⟨E,H,q,I,J,K,dL,dU,pG,dW,eH,pM,fe,fu,pR,rfl,rfl,-,pV,p9,qo,nS,nZ,qD,oh,oo,qE,oq,ow⟩:=KV X;clear X;have qG:q.length≤1048576:=hn;clear hn;obtain⟨O,aS⟩:=nm (zq (s,T) (E,H,q,I,J,K))
 have qN:O.length≤1099512676352:=by
  have h1:=LK (r:=(E,H,q,I,J,K)) aN.o (q.length+1);have h2:(zq (s,T) (E,H,q,I,J,K)).length=((List.range (q.length+1)).flatMap (occAt (s,T) (E,H,q,I,J,K))).length:=rfl;rw[aS];omega
 have fw:=Kz aS;clear aS;go_in
 go_upto_region 2 with fail
 generalize hB:((w.alloc (.cells #[.slice dz s.length dA,.slice dC T.length dG] 36)).alloc (.cells #[.string E,.string H,.slice dL q.length dU,.bool I,.slice dW J.length eH,.slice fe K.length fu] 112))=B;have gB:Gr w B:=gb hB;obtain⟨fA,fK⟩:=kb2 hB (w.heap.size) (.slice dz s.length dA) (.slice dC T.length dG);obtain⟨gm,gD,gF,gH,gM,gT⟩:=kb6 hB (w.heap.size+1) (.string E) (.string H) (.slice dL q.length dU) (.bool I) (.slice dW J.length eH) (.slice fe K.length fu);have sB:B.heap.size=w.heap.size+2:=szB hB;clear hB;have y0:=fA _ (Gr.refl _);have y1:=fK _ (Gr.refl _);have y2:=gm _ (Gr.refl _);have y3:=gD _ (Gr.refl _);have y4:=gF _ (Gr.refl _);have y5:=gH _ (Gr.refl _);have y6:=gM _ (Gr.refl _);have y7:=gT _ (Gr.refl _);have aV:=blk y0;have aZ:=blk y2;have kT:=Kz (bE.kF (α:=ag) (w0:=B) (w:=B) 132 (le_refl _) (show w.heap.size+1+1=B.heap.size by omega));go_wp2_with fail;refine(MS (s,T) (E,H,q,I,J,K) _ (Rd.gr HG.o (gB.trans gd)) (Rd.gr HR.o (gB.trans gd)) aN.o HN.o).mono ?_;rintro e w' ⟨vL,fL,rfl,hs,hf,x1,rfl⟩;rw[←fw.o] at hs;have HS:=Kz hs;have HF:=Kz hf;obtain⟨aL,kL,rfl,-,-,-⟩:=hs.open;clear hs hf;go_wp2_with fail;clear y0 y1 y2 y3 y4 y5 y6 y7 aV aZ
 go_loopw [7,5] (fun s7 s5 wr=>∃(k:Nat) (fps:List (List Nat)),k≤O.length∧Ky (fps.flatten=[])∧Ky (Gr B wr)∧bE (α:=ag) B 132 wr s5 fps ((O.take k).filter (MW (s,T) (E,H,q,I,J,K)))∧Ky (SlR fL wr (.slice aL O.length kL) O)∧Ky (∀b∈s5.ownBlock.toList,b∉fL)∧s7=.int .i64 k) (fun s7 _ _=>O.length - (intOf s7).toNat)
 case atStart=>exact⟨0,[],by omega,Kz rfl,Kz gd,kT.o.gr gd,Kz (HS.o.gr gd),Kz (fun b Z hm=>by
  have h1:b=w.heap.size+1+1:=by first|(simpa[Value.ownBlock] using Z.symm)|(simp[Value.ownBlock] at Z;omega)
  have h2:=HF.o.2 b hm;simp at h2;omega),rfl⟩
 case round=>
  obtain⟨k,fps,hk,bg,D,hown,ik,ai,rfl⟩:=hrel;obtain⟨os,aj⟩:=nm ((O.take k).filter (MW (s,T) (E,H,q,I,J,K)));rw[←aj] at hown
  have qR:os.length≤1099512676352:=by
   have h1:=List.length_filter_le (MW (s,T) (E,H,q,I,J,K)) (O.take k);have h2:(O.take k).length≤O.length:=by rw[List.length_take];omega
   rw[aj];omega
  have jN:=Kz aj;clear aj
  rename World=>W1
  have HO:=Kz hown;obtain⟨ra,rc,cO⟩:=hown.form;subst cO;clear hown;have au:=Kz (gB.trans D.o)
  by_cases bB:k<O.length
  ·have U:=ik.o
   obtain⟨a',c',he,qV,qX,kS⟩:=U.open;injection he with e1 e2 e3;subst e1 e3;have y0:=fA _ D.o;have y1:=fK _ D.o;have y2:=gm _ D.o;have y3:=gD _ D.o;have y4:=gF _ D.o;have y5:=gH _ D.o;have y6:=gM _ D.o;have y7:=gT _ D.o;have aV:=blk y0;have aZ:=blk y2;obtain⟨bq,oz,rfl,oG⟩:=kS k bB;obtain⟨q0,q1,kV,rf,jX,j4,bD,bH,rq⟩:=Le U bB (Gr.refl _);have HQ:=Kz (And.intro jX j4);have k0:(0:Int)≤(k:Int):=by omega
   have k1:(k:Int)<(O.length:Int):=by omega
   have iw:=zI1 k (by omega);obtain⟨S,hS⟩:=nm (j6 (E,H,q,I,J,K) q0);obtain⟨Y,hY⟩:=nm ((bW s S).getD dE);obtain⟨C,hC⟩:=nm (MW (s,T) (E,H,q,I,J,K) (q0,q1));have kX:=Kz (show C=((ek Y.2 q1).getD dR).2.2.2 by rw[hC,hY,hS];rfl);have HX:=Kz (show(O.take (k+1)).filter (MW (s,T) (E,H,q,I,J,K))=os++(if C then[(q0,q1)] else[]) by rw[MZ bB,←kV.o,←hC,jN.o]);have kZ:=Kz hY;have lq:=Kz hS;have j5:=Kz (And.intro bD bH);clear hS hY hC jX j4 U
   go_upto_region 6 with fail
   have bK:=fun(w':World) (h:Gr W1 w')=>(⟨h.keep y0,h.keep y1,h.keep y2,h.keep y3,h.keep y4,h.keep y5,h.keep y6,h.keep y7,h.keep bD⟩:_∧_∧_∧_∧_∧_∧_∧_∧_)
   go_cut [8] (fun sp wx=>mK w W1 Y sp wx)
   case first=>
    go_region_held3 (fun w'=>Gr W1 w') (exact ga)
     (first|(go_at_call 184;refine(iG (E,H,q,I,J,K) q0 _ (Rd.gr HR.o (au.o.trans ga))).mono ?_;rintro e w' ⟨rfl,x2,rfl⟩;rw[←lq.o])|(go_at_call 59;refine(dX (s,T) S _ (Rd.gr HG.o (au.o.trans ga)) aN.o).mono ?_;rintro e w' ⟨es,fq,rfl,X,bL,x3,rfl⟩;obtain⟨s0,s1,ku,ky,bN,bV,rfl,lG,lV,U,oH,oK⟩:=Lg (x:=(bW s S).getD dE) X;have l5:=Kz bV;have rD:=Lt bV X;clear X bV;obtain⟨bb,ae⟩:∃b:Bool,b=(bW s S).isSome:=⟨_,rfl⟩;rw[←ae];have l6:=Kz ae;clear ae;have l7:=Kz bL;clear bL))
    all_goals
     go_wp2_with fail;go_meet;have hY:Y=(s0,s1):=kZ.o.trans l5.o.symm;subst hY;have oL:=au.o.size;have ax:∀c∈bN,c<w.heap.size∨_≤c:=fun c hc=>(l7.o c (by rw[lG.o];simpa using hc)).imp (Rd.lt HG.o c) id
     refine⟨_,.slice ku s1.length ky,bN,rfl,gd,?_,?_,?_,lV,by first|omega|(simp;done)|(simp;omega),fun c hc=>(ax c hc).imp id (fun h=>by first|omega|(simp at h;omega))⟩
     ·go_simp
     ·go_simp
     ·first
       |(refine U.gr ?_;(repeat(first|exact Gr.refl _|apply Gr.ext|apply Gr.alloc|apply Gr.drew));done)
       |((with_reducible refine U.mono (dO ?_));exact fun c hc e=>by subst e;have:=ax _ hc;simp at this;omega)
       |((with_reducible refine U.mono (dM ?_));exact fun c hc e=>by subst e;have:=ax _ hc;simp at this;omega)
       |((with_reducible refine U.mono (iR ?_));exact fun c hc e=>by subst e;have:=ax _ hc;simp at this;omega)
   case rest=>
    obtain⟨gb,v8,bN,rfl,g2,d0,kz,kE,l8,ma,mf⟩:=hcut;obtain⟨s0,s1⟩:=Y;obtain⟨ku,ky,rfl,-,-,-⟩:=kE.open
    rename World=>W2
    have z1:=g2.keep bH;have mh:=blk z1;have zd:=blk d0;have mo:=Kz l8;have mq:=Kz kE;have ah:=Kz g2;clear bK y0 y1 y2 y3 y4 y5 y6 y7 aV aZ bD bH mf ma
    go_upto_region 7 with fail
    have bK:=fun(w':World) (h:Gr W2 w')=>(⟨h.keep d0,h.keep kz,h.keep z1⟩:_∧_∧_)
    go_cut [10] (fun sp wx=>OO W2 C sp wx)
    case first=>
     go_region_held3 (fun w'=>Gr W2 w') (exact ga)
      (first|(go_at_call 159;refine(jC (s0,s1) q1 _ (iQ s0 s1 mo.o (mq.o.gr ga))).mono ?_;rintro e w' ⟨es,fq,rfl,X,bL,x3,rfl⟩;obtain⟨p0,p1,p2,p3,hyp,rfl,-,rE,rR,rT⟩:=Ld (x:=(ek s1 q1).getD dR) X;have mr:=Kz hyp;have sw:=Lt hyp X;clear X hyp;obtain⟨bb,ae⟩:∃b:Bool,b=(ek s1 q1).isSome:=⟨_,rfl⟩;rw[←ae];have l6:=Kz ae;clear ae))
     all_goals
      go_wp2_with fail;go_meet;have mH:C=p3:=by rw[kX.o,←mr.o]
      subst mH;exact⟨_,rfl,gd,by go_simp⟩
    case rest=>
     obtain⟨sG,rfl,g3,c3⟩:=hcut
     rename World=>W3
     have sH:=blk c3;have cK:=Kz (D.o.trans (ah.o.trans g3));have kQ:=Kz (HO.o.gr (ah.o.trans g3));have ay:=Kz (ik.o.gr (ah.o.trans g3));have sN:=ay.o;clear bK d0 kz z1 mh zd;have u0:=(ah.o.trans g3).keep j5.o.1;have u1:=(ah.o.trans g3).keep j5.o.2;have zu:=blk u0
     cases C with
     |true=>
      go_wp2_with (first|(at_builtin;refine eU (α:=ag) (wg:=B) (w0:=B) (tg cK) (le_refl _) (tg cK).size rfl _ _ 129 rfl 132 i0 _ _ Tryz.underlying129 HZ.o.1 HZ.o.2.1 HZ.o.2.2.1 HZ.o.2.2.2 rfl _ fps os (by rfl) (kQ.o.gr gd) _ [[]] [(q0,q1)] (by rfl) (eT.one (by simp) (bO q0 q1 HQ.o.1 HQ.o.2)) (fun b _=>by simp) (by unfold maxLen;simp;omega) (by simp;omega) ?_;intro v4 w4 h1 h2 h3 h4;have K1:=Kz h1;have K4:=Kz h4;have K2:=Kz ((show Gr W3 _ from gd).eF _ |>.trans h2);have K3:=Kz (show∀b∈v4.ownBlock.toList,b∈(Value.slice ra os.length rc).ownBlock.toList∨W3.heap.size≤b from fun b Z=>h3.elim (fun e=>.inl (by rw[e] at Z;exact Z)) (fun e=>.inr (by rw[e] at Z;simp at Z;omega)));clear h1 h2 h3 h4))
      refine⟨⟨k+1,fps++[[]],by omega,Kz (by rw[List.flatten_append,bg.o];rfl),K4,by rw[HX.o];exact K1.o,Kz (ay.o.wr K2.o (fun b Z hm=>(ai.o b hm) Z)),Kz (fun b Z=>?_),by go_num⟩,by simp[intOf];omega⟩;rcases K3.o b Z with h|h
      ·exact ai.o b h
      ·have h9:=ay.o.lt
       exact fun hm=>by have:=h9 b hm;omega
     |false=>
      go_wp2_with fail;refine⟨⟨k+1,fps,by omega,bg,Kz (tg cK),by rw[HX.o];simp;exact kQ.o.gr gd,Kz (ay.o.gr gd),ai,by go_num⟩,by simp[intOf];omega⟩
  ·have mZ:k=O.length:=by omega
   subst mZ;obtain⟨fq,h1,h2⟩:=HO.o.fresh (by unfold bn;omega) (by rw[bg.o];exact aY.nil _);have H1:=Kz (show SlR fq W1 (.slice ra os.length rc) (q8 (s,T) (E,H,q,I,J,K)) by unfold q8;rw[←fw.o,←take_length (l:=O),←jN.o];exact h1);have H2:=Kz (h2.of_le gB.size);clear h1 h2;go_wp2_with fail;go_ret;exact⟨_,fq,rfl,H1.o,H2.o,au.o⟩
theorem Wr.setCells(q:b∈fp)(vs:List Value):∀{a c:World} {o:Nat},Wr fp a c→Wr fp a (c.setCells b o vs):=by
 induction vs with
 |nil=>intro a c o h;exact h
 |cons v vs s=>intro a c o h;exact s (h.setCell q v)
theorem SlR.iX(h:SlR fp w (.slice (some ⟨b,off,none⟩) len cap) xs){i:Nat}(B:i<xs.length):
  w.cell? ⟨b,off+i*2,none⟩=some (.int .i64 xs[i].1)∧w.cell? ⟨b,off+i*2+1,none⟩=some (.string xs[i].2)∧(Lit.int .i64 xs[i].1).wf=true∧xs[i].2.size≤maxLen:=by
 obtain⟨cs,fq,hc,q,-⟩:=h.at B;obtain⟨y,D⟩:=nm (xs[i]);rw[←D] at q ⊢;obtain⟨q0,q1⟩:=y;obtain⟨s,-,E,H⟩:=LD (cs:=cs.toArray) q0 q1 (by simpa using q);obtain rfl:=toL s;exact⟨by simpa[Rd.n] using hc 0 _ rfl,hc 1 _ rfl,E,H⟩
theorem SlR.kR(h:SlR fp w (.slice (some ⟨b,off,none⟩) len cap) xs){i:Nat}(s:i<xs.length*2):w.frozen? ⟨b,off+i,none⟩=false:=by
 obtain⟨a,cap,D,J,K,⟨rfl,rfl⟩|⟨O,E,fps,I,rfl,rfl,T,B,U⟩⟩:=h
 ·simp at s
 ·injection D with q X Y
  injection q with q;injection q with q H _;subst q H;exact B i s
theorem SlR.Jb(h:SlR fp w (.slice (some ⟨b,off,none⟩) len cap) xs)(s:0<xs.length):fp=[b]:=by
 obtain⟨a,cap,D,T,U,⟨rfl,rfl⟩|⟨X,E,fps,K,rfl,rfl,Y,O,H⟩⟩:=h
 ·simp at s
 ·injection D with q Z e3
  injection q with q;injection q with q I _;subst q I
  have:fps.flatten=[]:=by
   rw[List.flatten_eq_nil_iff];intro f J
   obtain⟨i,s,rfl⟩:=List.mem_iff_getElem.1 J;obtain⟨_,_,B⟩:=H i (by omega) s;exact mU nK nI _ _ _ _ B
  rw[this]
theorem SlR.EI(h:∀j (q:j<xs.length),w.cell? ⟨b,off+j*2,none⟩=some (.int .i64 xs[j].1)∧w.cell? ⟨b,off+j*2+1,none⟩=some (.string xs[j].2)∧(Lit.int .i64 xs[j].1).wf=true∧xs[j].2.size≤maxLen)
  (E:∀j,j<xs.length*2→w.frozen? ⟨b,off+j,none⟩=false) (hc:xs.length≤cap) (B:xs.length≤bn):
  ∃fq,SlR fq w (.slice (some ⟨b,off,none⟩) xs.length cap) xs∧fq.Sublist [b]:=by
 by_cases D:xs=[]
 ·subst D
  exact⟨[],⟨_,cap,rfl,hc,B,.inl ⟨rfl,rfl⟩⟩,by simp⟩
 ·refine⟨[b],⟨_,cap,rfl,hc,B,.inr ⟨b,off,List.replicate xs.length [],D,rfl,by simp,by simp,fun j q=>E j q,fun i s H=>?_⟩⟩,by simp⟩
  refine⟨[.int .i64 xs[i].1,.string xs[i].2],fun j v q=>?_,by simpa using bZ (w:=w) xs[i].1 xs[i].2 (h i s).2.2.1 (h i s).2.2.2⟩
  match j,q with
  |0,q=>obtain rfl:=Option.some.inj q;simpa[Rd.n] using(h i s).1
  |1,q=>obtain rfl:=Option.some.inj q;exact(h i s).2.1
section
variable{P:Program}
theorem vS(w:World)(t e ty:TypeId)(z:Value)(q:P.underlying t=some (.slice e))(s:∀w,(zeroValue e).run P w=.ok z w)(b o n c:Nat)(H:0<n)(L:List Value)(B:(Builtin.zeroCells z.cells n).toList=L)(D:∀v∈L,v.oneCell'=true)
  (hc:∀j,j<L.length→(w.cell? ⟨b,o+j,none⟩).isSome=true) (E:∀j,j<L.length→w.frozen? ⟨b,o+j,none⟩=false):
  (Builtin.clear_ #[t] ty #[.slice (some ⟨b,o,none⟩) n c]).run P w=.ok (.tuple #[]) (w.setCells b o L):=by
 have h:=run_storeCells_cells (P:=P) b o L 0 w (by simpa using hc) (by simpa using E) D;simp only[Nat.add_zero] at h;obtain⟨m,rfl⟩:∃m,n=m+1:=⟨n - 1,by omega⟩;simp[Builtin.clear_,run_underlying q,s,B,h]
end
theorem Cb(fp:List Nat)(cs:Array Value)(x:bC)(s:ByteArray)(b:Nat)(w:World)(B:Rd.rd fp w cs.toList x)(D:w.cell? ⟨b,0,none⟩=some (.string s)):Qz 283 #[.agg cs,.pointer (some ⟨b,0,none⟩)] w (.bool (decide (x.1=s))):=by
 obtain⟨q0,q1⟩:=x;obtain⟨E,H,rfl,-,I,q⟩:=dB (cs:=cs) q0 q1 B;obtain⟨J,K,rfl,-,-,-⟩:=q.open;have O:=blk D;delta Qz;go_in;go_wp2_with fail;go_ret;refine⟨aa ?_,gd⟩
 by_cases h:q0=s
 ·rw[decide_eq_true h,h];simp
 ·rw[decide_eq_false h,beq_eq_false_iff_ne.2 fun e=>h (str_inj e)]
theorem BJ(fp:List Nat)(cs:Array Value)(x:aW d)(s:ByteArray)(b:Nat)(w:World)(q:Rd.rd fp w cs.toList x)(B:w.cell? ⟨b,0,none⟩=some (.string s)):Qz 285 #[.agg cs,.pointer (some ⟨b,0,none⟩)] w (.bool (decide (x.1=s))):=by
 obtain⟨D,x1,x2,x3,x4,x5,T,U,X,Y,Z,ae,ah,ai,aj,rfl,rfl,-,au,ax,ay,E,H,aL,I,J,aN,K,O⟩:=KV q;clear q;have aS:=blk B;delta Qz;go_in;go_wp2_with fail;go_ret;refine⟨aa ?_,gd⟩
 by_cases h:D=s
 ·rw[decide_eq_true h,h];simp
 ·rw[decide_eq_false h,beq_eq_false_iff_ne.2 fun e=>h (str_inj e)]
theorem Ca(fg:List Nat)(cg:Array Value)(g:af d)(w:World)(hg:Rd.rd fg w cg.toList g)(hl:aP g≤1048576):Calls Tryz.prog 243 #[.agg cg] w (Ju g w):=by
  obtain⟨s,D,aV,aZ,kz,bg,bq,kE,rfl,rfl,-,ai,gD,gF,aj,gH,gM⟩:=yt hg;have dC:=ai.op3;have dG:=aj.op3;clear hg;have bB:wtL bM s+wtL bF D≤1048576:=hl;have kL:s.length≤1048576:=by have:=bT bM s;omega
  have kQ:D.length≤1048576:=by have:=bT bF D;omega
  have HL:=Kz bB;clear hl bB;go_in;go_wp2_with fail;generalize hB:(w.alloc (.cells #[.slice aV s.length aZ,.slice bg D.length bq] 36))=B;have gB:Gr w B:=gb hB;obtain⟨bD,bH⟩:=kb2 hB (w.heap.size) (.slice aV s.length aZ) (.slice bg D.length bq);clear hB
  go_loopw [10] (fun s6 wr=>∃k:Nat,k≤s.length∧Ky (∀a∈s.take k,Dv a)∧Ky (kM Prod.fst (s.take k))∧Ky (Gr B wr)∧s6=.int .i64 k) (fun s6 _=>s.length - (intOf s6).toNat)
  case atStart=>exact⟨0,by omega,Kz (by simp),Kz (by intro i h;simp at h),Kz (Gr.refl _),rfl⟩
  case round=>
    skip;obtain⟨k,hk,HA,HD,E,rfl⟩:=hrel
    rename World=>W1
    have Y:=bD _ E.o;have K:=bH _ E.o;have Z:=blk K;have T:=gB.trans E.o;have H:=Kz T
    by_cases q:k<s.length
    · have au:=dI bM s q
      have ax:=Kz (show bM s[k]≤1048576 by have:=HL.o;omega);have ay:=Kz (fun h=>dD q HA.o h);have aL:=Kz (lK q HD.o);have aN:=Kz (oC (f:=Prod.fst) (xs:=s) q);have ae:=Kz (List.getElem_mem q);obtain⟨dL,U,-⟩:=ai.pre hk;have ah:=Kz (U.gr H.o);clear au U;obtain⟨b,off,rfl,dU⟩:=dC k q;obtain⟨q0,q1,bK,bL,kS,dW,I,aS,eH,fe,gT,ik,fu,fw,fA⟩:=K9 ai q T;have k0:(0:Int)≤(k:Int):=by omega
      have k1:(k:Int)<(s.length:Int):=by omega
      have iw:=zI1 k (by omega);clear T;go_wp2_with fail;generalize hC:(W1.alloc (.cells #[.string q0,.slice bK q1.length bL] 104))=C;have gC:Gr W1 C:=gb hC;have VC:=Kz (show az C W1.heap.size 104 [.string q0,.slice bK q1.length bL] from by rw[←hC];exact az.new rfl);replace Y:=gC.keep Y;replace K:=gC.keep K;replace Z:=blk K;have J:=Kz gC;clear hC gC;refine(Dt _ _ (q0,q1) _ (Rd.gr aS.o (H.o.trans J.o)) (by rw[I.o];exact ax.o)).mono ?_;rintro e w' ⟨rfl,x1,rfl⟩
      by_cases O:Dv (q0,q1)
      · rw[bQ O]
        have HP:=Kz O;clear O;replace Y:=(show Gr C (C.ext x1) from gd).keep Y;replace K:=(show Gr C (C.ext x1) from gd).keep K;replace Z:=blk K
        have HT:=Kz (show TestSymbol (C.ext x1) 283 #[.pointer (some ⟨W1.heap.size,0,none⟩)] (fun a=>decide (a.1=q0)) (s.take k) from
          ⟨Tryz.call283,fun z _ x fp cs hr=>Cb fp cs z q0 _ _ hr ((VC.o.gr gd).c 0)⟩)
        go_wp2_with (first|(go_at_call 140;refine(nk _ _ (s.take k) _ _ (fun a=>decide (a.1=q0)) _ (ah.o.gr (tg J)) HT.o).mono ?_;rintro e w' ⟨rfl,x2,rfl⟩;rw[Aq]))
        go_ways
        all_goals first
          | (have X:q0∈List.take k (List.map Prod.fst s):=dx.1 ‹_›
             have hm:q0∈(s.take k).map Prod.fst:=by rw[map_take];exact X
             go_ret;exact⟨k,rfl,by omega,by omega,⟨fun h=>by omega,fun h=>absurd h.2.1 (aN.o (by rw[←I.o];exact hm))⟩,H.o.trans (tg J)⟩)
          | (have X:¬(q0∈List.take k (List.map Prod.fst s)):=lM ‹_›
             have hm:¬(q0∈(s.take k).map Prod.fst):=by rw[map_take];exact X
             exact⟨⟨k+1,by omega,Kz (ay.o (by rw[←I.o];exact HP.o)),Kz (aL.o (by rw[←I.o];exact hm)),Kz (E.o.trans (tg J)),by go_num⟩,by simp[intOf];omega⟩)
         
      · rw[bz O]
        have HP:=Kz O;clear O;go_wp2_with fail;go_ret;exact⟨k,rfl,by omega,by omega,⟨fun h=>by omega,fun h=>absurd (h.1 _ ae.o) (by rw[←I.o];exact HP.o)⟩,H.o.trans (tg J)⟩
    · obtain rfl:k=s.length:=by omega
      rw[take_length] at HA HD;have fK:=HA;have gm:=HD;go_wp2_with fail
      go_loopw [31] (fun s6 wr=>∃k:Nat,k≤D.length∧Ky (∀a∈D.take k,j3 a)∧Ky (kM Prod.fst (D.take k))∧Ky (Gr B wr)∧s6=.int .i64 k) (fun s6 _=>D.length - (intOf s6).toNat)
      case atStart=>exact⟨0,by omega,Kz (by simp),Kz (by intro i h;simp at h),E,rfl⟩
      case round=>
        clear Y K Z E T H;obtain⟨k,hk,HA,HD,E,rfl⟩:=hrel
        rename World=>W2
        have Y:=bD _ E.o;have K:=bH _ E.o;have Z:=blk K;have T:=gB.trans E.o;have H:=Kz T
        by_cases q:k<D.length
        · have au:=dI bF D q
          have ax:=Kz (show bF D[k]≤1048576 by have:=HL.o;omega);have ay:=Kz (fun h=>dD q HA.o h);have aL:=Kz (lK q HD.o);have aN:=Kz (oC (f:=Prod.fst) (xs:=D) q);have ae:=Kz (List.getElem_mem q);obtain⟨dL,U,-⟩:=aj.pre hk;have ah:=Kz (U.gr H.o);clear au U;obtain⟨b,off,rfl,dU⟩:=dG k q;obtain⟨q0,q1,q2,q3,q4,q5,bN,bV,kT,cK,cO,kV,dz,dA,kX,dW,I,aS,eH,fe,kZ,jN,jX,lq,j4,j5,lG,ku,ky,fu,fw,lV,l5,l6,l7,fA⟩:=Lf aj q T;have k0:(0:Int)≤(k:Int):=by omega
          have k1:(k:Int)<(D.length:Int):=by omega
          have iw:=zI1 k (by omega);clear T;go_wp2_with fail;generalize hC:(W2.alloc (.cells #[.string q0,.string q1,.slice bN q2.length bV,.bool q3,.slice cK q4.length cO,.slice dz q5.length dA] 112))=C;have gC:Gr W2 C:=gb hC;have VC:=Kz (show az C W2.heap.size 112 [.string q0,.string q1,.slice bN q2.length bV,.bool q3,.slice cK q4.length cO,.slice dz q5.length dA] from by rw[←hC];exact az.new rfl);replace Y:=gC.keep Y;replace K:=gC.keep K;replace Z:=blk K;have J:=Kz gC;clear hC gC;refine(BB _ _ (q0,q1,q2,q3,q4,q5) _ (Rd.gr aS.o (H.o.trans J.o)) (by rw[I.o];exact ax.o)).mono ?_;rintro e w' ⟨rfl,x1,rfl⟩
          by_cases O:j3 (q0,q1,q2,q3,q4,q5)
          · rw[bQ O]
            have HP:=Kz O;clear O;replace Y:=(show Gr C (C.ext x1) from gd).keep Y;replace K:=(show Gr C (C.ext x1) from gd).keep K;replace Z:=blk K
            have HT:=Kz (show TestRule (C.ext x1) 285 #[.pointer (some ⟨W2.heap.size,0,none⟩)] (fun a=>decide (a.1=q0)) (D.take k) from
              ⟨Tryz.call285,fun z _ x fp cs hr=>BJ fp cs z q0 _ _ hr ((VC.o.gr gd).c 0)⟩)
            go_wp2_with (first|(go_at_call 135;refine(oQ _ _ (D.take k) _ _ (fun a=>decide (a.1=q0)) _ (ah.o.gr (tg J)) HT.o).mono ?_;rintro e w' ⟨rfl,x2,rfl⟩;rw[Aq]))
            go_ways
            all_goals first
              | (have X:q0∈List.take k (List.map Prod.fst D):=dx.1 ‹_›
                 have hm:q0∈(D.take k).map Prod.fst:=by rw[map_take];exact X
                 go_ret;exact⟨k,rfl,by omega,by omega,⟨fun h=>by omega,fun h=>absurd h.2.2.2 (aN.o (by rw[←I.o];exact hm))⟩,H.o.trans (tg J)⟩)
              | (have X:¬(q0∈List.take k (List.map Prod.fst D)):=lM ‹_›
                 have hm:¬(q0∈(D.take k).map Prod.fst):=by rw[map_take];exact X
                 exact⟨⟨k+1,by omega,Kz (ay.o (by rw[←I.o];exact HP.o)),Kz (aL.o (by rw[←I.o];exact hm)),Kz (E.o.trans (tg J)),by go_num⟩,by simp[intOf];omega⟩)
             
          · rw[bz O]
            have HP:=Kz O;clear O;go_wp2_with fail;go_ret;exact⟨k,rfl,by omega,by omega,⟨fun h=>by omega,fun h=>absurd (h.2.2.1 _ ae.o) (by rw[←I.o];exact HP.o)⟩,H.o.trans (tg J)⟩
        · obtain rfl:k=D.length:=by omega
          rw[take_length] at HA HD;go_wp2_with fail;go_ret;exact⟨-1,rfl,by omega,by omega,⟨fun _=>⟨fK.o,gm.o,HA.o,HD.o⟩,fun _=>by omega⟩,H.o⟩
set_option maxRecDepth 100000 in
theorem qg(g:af d)(r:aW d)(w:World)(hg:Rd.rd fg w cg.toList g)(E:Rd.rd fr w cr.toList r)(hl:aP g≤1048576)(hn:r.2.2.1.length≤1048576):
  Qz 245 #[.agg cg,.agg cr] w (.bool (!pB (nV g r))):=by
 clear hl;have HG:=Kz hg;obtain⟨D,U,ai,aj,j4,au,ax,j5,rfl,rfl,-,ku,fe,fu,s,fw,fA⟩:=yt hg;clear hg;have HR:=Kz E;obtain⟨H,I,q,J,K,O,ay,aL,ky,aN,aS,kz,aV,aZ,kE,rfl,rfl,-,kL,kQ,kS,fK,gm,kT,gD,gF,kV,gH,gM⟩:=KV E;clear E;have kX:q.length≤1048576:=hn;have kZ:IntKind.i64.wrap ((q.length:Int)+1)=(q.length:Int)+1:=IntWalk.i64_in _ (by omega);clear hn;delta Qz;go_in;go_wp2_with fail;generalize X:((w.alloc (.cells #[.slice ai D.length aj,.slice au U.length ax] 36)).alloc (.cells #[.string H,.string I,.slice ay q.length aL,.bool J,.slice aN K.length aS,.slice aV O.length aZ] 112))=B;have gB:Gr w B:=gb X;obtain⟨bB,bD⟩:=kb2 X (w.heap.size) (.slice ai D.length aj) (.slice au U.length ax);obtain⟨bH,bK,bL,bN,bV,cK⟩:=kb6 X (w.heap.size+1) (.string H) (.string I) (.slice ay q.length aL) (.bool J) (.slice aN K.length aS) (.slice aV O.length aZ);have sB:B.heap.size=w.heap.size+2:=szB X;clear X
 go_loopw [12] (fun s8 wr=>∃(p:Nat),p≤q.length+1∧Ky (∀k:Nat,k<p→(bW D (j6 (H,I,q,J,K,O) (k:Int))).isSome=true)∧Gr B wr∧s8=.int .i64 p) (fun s8 _=>q.length+1 - (intOf s8).toNat)
 case atStart=>exact⟨0,by omega,Kz (by intro k hk;omega),gd,rfl⟩
 case round=>
  obtain⟨p,hp,HK,s,rfl⟩:=hrel
  rename World=>W1
  have cO:=Kz s;have y0:=bB _ s;have y1:=bD _ s;have y2:=bH _ s;have y3:=bK _ s;have y4:=bL _ s;have y5:=bN _ s;have y6:=bV _ s;have y7:=cK _ s;have dz:=blk y0;have dA:=blk y2;have bg:=gB.trans s;have T:=Kz bg
  by_cases dC:p≤q.length
  ·have gT:(p:Int)≤(q.length:Int):=by omega
   have ik:(p:Int)<(q.length:Int)+1:=by omega
   have p0:(0:Int)≤(p:Int):=by omega
   have lq:=zI1 p (by omega);obtain⟨S,hS⟩:=nm (j6 (H,I,q,J,K,O) (p:Int));have Y:=Kz hS;obtain⟨R,hR⟩:=nm ((bW D S).isSome);have Z:=Kz hR;clear hS hR
   go_upto_region 4 with fail
   have dG:=fun(w':World) (h:Gr W1 w')=>(⟨h.keep y0,h.keep y1,h.keep y2,h.keep y3,h.keep y4,h.keep y5,h.keep y6,h.keep y7⟩:_∧_∧_∧_∧_∧_∧_∧_)
   clear bg
   go_cut [7] (fun sp wx=>Ez W1 R sp wx)
   case first=>
    go_region_held3 (fun w'=>Gr W1 w') (exact ga)
     (first|(go_at_call 210;refine(jF (H,I,q,J,K,O) (p:Int) _ (Rd.gr HR.o (T.o.trans ga))).mono ?_;rintro e w' ⟨rfl,x2,rfl⟩;rw[←Y.o])|(go_at_call 94;refine(dY (D,U) S _ (Rd.gr HG.o (T.o.trans ga))).mono ?_;rintro e w' ⟨es,fq,rfl,E,dL,x3,rfl⟩;obtain⟨s0,s1,lG,lV,l5,ae,rfl,-,l6,l7,iw,jN⟩:=Lg (x:=(bW D S).getD dE) E;have l8:=Kz ae;have ma:=Lt ae E;clear E ae;obtain⟨bb,ah⟩:∃b:Bool,b=(bW D S).isSome:=⟨_,rfl⟩;rw[←ah];have dU:=Kz ah;clear ah;clear dL))
    all_goals
     go_wp2_with fail;go_meet;have hb:bb=R:=dU.o.trans Z.o.symm;subst hb;exact⟨rfl,gd⟩
   case rest=>
    obtain⟨rfl,g2⟩:=hcut
    rename World=>W2
    have dW:=Kz (cO.o.trans g2);have bq:=Kz (T.o.trans g2);have z2:=g2.keep y2;have mf:=blk z2;clear dG y0 y1 y2 y3 y4 y5 y6 y7 dz dA g2
    cases R with
    |true=>
     go_wp2_with fail;refine⟨⟨p+1,by omega,Kz fun k hk=>?_,dW.o,by go_num⟩,by simp[intOf];omega⟩
     by_cases eH:k<p
     ·exact HK.o k eH
     ·obtain rfl:k=p:=by omega
      rw[←Y.o];exact Z.o.symm
    |false=>
     go_wp2_with fail;go_ret;exact⟨aa (by rw[bz (show¬nV (D,U) (H,I,q,J,K,O) from fun h=>by have h1:=h p dC;rw[←Y.o] at h1;exact absurd (Z.o.trans h1) (by decide))];try rfl),bq.o⟩
  ·have mh:p=q.length+1:=by omega
   have mo:¬((p:Int)≤(q.length:Int)):=by omega
   have jX:¬((p:Int)<(q.length:Int)+1):=by omega
   go_wp2_with fail;go_ret;exact⟨aa (by rw[bQ (show nV (D,U) (H,I,q,J,K,O) from fun k hk=>HK.o k (by have:k≤q.length:=hk;omega))];try rfl),T.o⟩
end Go.Proofs.YtdhighcpmcdmmaaGreat
