/- Contracts and laws towards ReadsOf, part 37 of 54. No condition. -/
import Derived.Test.YtleafadpfeibfaaGreatRx28
set_option maxHeartbeats 32000000
set_option maxRecDepth 10000
set_option linter.unusedVariables false
set_option linter.unusedSimpArgs false
namespace Go.Proofs.YtleafadpfeibfaaGreat
open Go.RowKit
open _root_.List (getElem_mem take_length)
variable{d:Nat}
set_option maxRecDepth 100000 in
theorem uQ{fg fr:List Nat}{cg cr:Array Value}(g:af d)(r:aW d)(w:World)(hg:Rd.rd fg w cg.toList g)(hr:Rd.rd fr w cr.toList r)(hl:aP g≤1048576)(hn:r.2.2.1.length≤1048576):
  Calls Tryz.prog 217 #[.agg cg,.agg cr] w (p8 w (mg g r)):=by
 obtain⟨i0,hi⟩:=info_parts Tryz.nX;have HZ:=Kz hi;clear hi;have gT:=Kz hl;clear hl;have HG:=Kz hg;obtain⟨g0,g1,ag0,kg0,Lj,ag1,kg1,Lm,rfl,rfl,-,Ls,BM,EB,D,E5,FX⟩:=yt hg;clear hg;have HR:=Kz hr;obtain⟨J,K,q,O,T,U,gV,gX,Lv,ik,iw,Lx,kr,ku,LA,rfl,rfl,-,LB,LC,LD,F4,F5,LF,F6,F8,LG,Ha,He⟩:=KV hr;clear hr;have LH:q.length≤1048576:=hn;have LJ:IntKind.i64.wrap ((q.length:Int)+1)=(q.length:Int)+1:=IntWalk.i64_in _ (by omega);clear hn;go_in;go_wp2_with fail;generalize hB:((w.alloc (.cells #[.slice ag0 g0.length kg0,.slice ag1 g1.length kg1] 39)).alloc (.cells #[.string J,.string K,.slice gV q.length gX,.bool O,.slice ik T.length iw,.slice kr U.length ku] 128))=B;have gB:Gr w B:=gb hB;obtain⟨uq,uz⟩:=kb2 hB (w.heap.size) (.slice ag0 g0.length kg0) (.slice ag1 g1.length kg1);obtain⟨ve,vB,vD,vF,vG,vL⟩:=kb6 hB (w.heap.size+1) (.string J) (.string K) (.slice gV q.length gX) (.bool O) (.slice ik T.length iw) (.slice kr U.length ku);have sB:B.heap.size=w.heap.size+2:=szB hB;clear hB
 go_loopw [17,5] (fun s8 s7 wr=>∃(p:Nat) (fps:List (List Nat)),p≤q.length+1∧Ky (fps.flatten=[])∧Gr B wr∧bE (α:=ag) B 181 wr s7 fps ((List.range p).flatMap (kU (g0,g1) (J,K,q,O,T,U)))∧s8=.int .i64 p) (fun s8 _ _=>q.length+1 - (intOf s8).toNat)
 case atStart=>exact⟨0,[],by omega,Kz rfl,gd,bE.kF (α:=ag) (w0:=B) (w:=B) 181 (Nat.le_refl _) (by omega),rfl⟩
 case round=>
  obtain⟨p,fps,hp,HF,D,hown,rfl⟩:=hrel;obtain⟨os,au⟩:=nm ((List.range p).flatMap (kU (g0,g1) (J,K,q,O,T,U)));rw[←au] at hown
  have vO:os.length≤1048576*p:=by
   rw[au];exact zN gT.o p
  have bB:=Kz au.symm;have vR:=Kz vO;clear au
  rename World=>W1
  have vX:=Kz D;have HO:=Kz hown;obtain⟨ra,rc,X⟩:=hown.form;subst X;have y0:=uq _ D;have y1:=uz _ D;have y2:=ve _ D;have y3:=vB _ D;have y4:=vD _ D;have y5:=vF _ D;have y6:=vG _ D;have y7:=vL _ D;have wF:=blk y2;have ky:=gB.trans D;have bH:=Kz ky;have wL:=Kz (show∀b∈(Value.slice ra os.length rc).ownBlock.toList,B.heap.size≤b∧b<W1.heap.size from fun b hb=>hown.base b (by simpa using hb));clear hown
  by_cases ax:p≤q.length
  ·have HV:(p:Int)≤(q.length:Int):=by omega
   have HY:(p:Int)<(q.length:Int)+1:=by omega
   have p0:(0:Int)≤(p:Int):=by omega
   have LK:=zI1 p (by omega);obtain⟨S,hS⟩:=nm (j6 (J,K,q,O,T,U) (p:Int));obtain⟨Y,hY⟩:=nm ((bW g0 S).getD dE);have w9:=Kz (show Y.2.length≤1048576 by rw[hY];exact tX gT.o S);have xc:=Kz (show kU (g0,g1) (J,K,q,O,T,U) p=jr (if p=0 then 2 else 1) (p:Int) Y.2 by rw[hY,hS];rfl);have x9:=Kz hY;have yc:=Kz hS;clear hY hS
   go_upto_if 21 with fail
   go_cut [7] (fun sm wr=>∃I:Int,sm=.int .i64 I∧Ky (I=if p=0 then 2 else 1)∧W1=wr)
   case first=>
    by_cases hz:p=0
    ·have yu:((p:Int)==0)=true:=by simp[hz]
     go_wp2_with fail;go_meet;exact⟨2,rfl,Kz (by rw[if_pos hz]),rfl⟩
    ·have yu:((p:Int)==0)=false:=by simpa using hz
     go_wp2_with fail;go_meet;exact⟨1,rfl,Kz (by rw[if_neg hz]),rfl⟩
   case rest=>
    obtain⟨I,rfl,uf,y8⟩:=hcut;subst y8;have y9:=Kz (show kU (g0,g1) (J,K,q,O,T,U) p=jr I (p:Int) Y.2 by rw[xc.o,←uf.o])
    go_upto_region 8 with fail
    have za:=fun(w':World) (h:Gr W1 w')=>(⟨h.keep y0,h.keep y1,h.keep y2,h.keep y3,h.keep y4,h.keep y5,h.keep y6,h.keep y7⟩:_∧_∧_∧_∧_∧_∧_∧_)
    clear ky
    go_cut [8] (fun sp wx=>mK w W1 Y sp wx)
    case first=>
     go_region_held3 (fun w'=>Gr W1 w') (exact ga)
      (first|(go_at_call 215;refine(jF (J,K,q,O,T,U) (p:Int) _ (Rd.gr HR.o (bH.o.trans ga))).mono ?_;rintro e w' ⟨rfl,x2,rfl⟩;rw[←yc.o])|(go_at_call 86;refine(dY (g0,g1) S _ (Rd.gr HG.o (bH.o.trans ga))).mono ?_;rintro e w' ⟨es,fq,rfl,hr,lq,x3,rfl⟩;obtain⟨s0,s1,bL,bR,aj,bX,rfl,zb,ze,ak,H5,IV⟩:=Lg (x:=(bW g0 S).getD dE) hr;have zf:=Kz bX;have LM:=Lt bX hr;have cB:=ak.op3;clear hr bX;obtain⟨bb,cK⟩:∃b:Bool,b=(bW g0 S).isSome:=⟨_,rfl⟩;rw[←cK];have LP:=Kz cK;clear cK;have zg:=Kz lq;clear lq))
     all_goals
      go_wp2_with fail;go_meet;have hY:Y=(s0,s1):=x9.o.trans zf.o.symm;subst hY;have ay:∀c∈aj,c<w.heap.size∨_≤c:=fun c hc=>(zg.o c (by rw[zb.o];simpa using hc)).imp (Rd.lt HG.o c) id
      refine⟨_,.slice bL s1.length bR,aj,rfl,gd,?_,?_,?_,ze,by first|omega|(simp;done)|(simp;omega),fun c hc=>(ay c hc).imp id (fun h=>by simp at h;omega)⟩
      ·go_simp
      ·go_simp
      ·first
        |(refine ak.gr ?_;(repeat(first|exact Gr.refl _|apply Gr.ext|apply Gr.alloc|apply Gr.drew));done)
        |((with_reducible refine ak.mono (dO ?_));exact fun c hc e=>by subst e;have:=ay _ hc;simp at this;omega)
        |((with_reducible refine ak.mono (dM ?_));exact fun c hc e=>by subst e;have:=ay _ hc;simp at this;omega)
        |((with_reducible refine ak.mono (iR ?_));exact fun c hc e=>by subst e;have:=ay _ hc;simp at this;omega)
    case rest=>
     obtain⟨gb,v8,aj,rfl,g2,d0,zl,oH,LQ,zn,oL⟩:=hcut;obtain⟨s0,s1⟩:=Y;obtain⟨bL,bR,rfl,-,-,-⟩:=oH.open
     rename World=>W2
     clear za y0 y1 y2 y3 y4 y5 y6 y7 wF;have o5:=Kz (show s1.length≤1048576 from w9.o);have KX:s1.length≤1048576:=o5.o;have zo:=Kz (vX.o.trans g2);have o9:=HO.o.gr g2;have zq:=Kz zl;have zu:=Kz oH
     have uo:=Kz (show∀b∈(Value.slice ra os.length rc).ownBlock.toList,b≠gb∧b∉aj from fun b hb=>by
      have h1:=wL.o b hb;have h2:=gB.size;exact⟨by omega,fun hm=>by have:=oL b hm;omega⟩)
     clear oL g2 zn d0;go_wp2_with fail
     go_loopw [33,5] (fun cO s7 wr=>∃j:Nat,j≤s1.length∧OfX B gb (.slice bL s1.length bR) aj s1 (os++jr I (p:Int) (s1.take j)) s7 wr∧cO=.int .i64 j) (fun cO _ _=>s1.length - (intOf cO).toNat)
     case atStart=>exact⟨0,by omega,⟨fps,HF.o,zo.o,by rw[List.take_zero];show bE _ _ _ _ _ (os++[]);rw[List.append_nil];exact o9,zq.o,zu.o,uo.o⟩,rfl⟩
     case round=>
      obtain⟨j,hj,⟨Z,dB,qb,hown,q8,dS,dV⟩,rfl⟩:=hrel;obtain⟨V,ae⟩:=nm (os++jr I (p:Int) (s1.take j));rw[←ae] at hown
      have K6:V.length≤1048576*p+1048576:=by
       rw[ae,List.length_append];have h1:=oI I (p:Int) (s1.take j);have h2:(s1.take j).length≤s1.length:=by rw[List.length_take];omega
       have h3:=o5.o;have h4:=vR.o;omega
      have ah:=Kz ae;have fe:=Kz dB;have aZ:=Kz qb;have fu:=Kz q8;have bg:=Kz dS;have ai:=Kz dV;clear dB qb q8 dS dV ae
      rename World=>W3
      have gD:=Kz hown;obtain⟨rb,rd,X⟩:=hown.form;subst X;have c3:=fu.o;have LU:=blk c3;clear hown o9
      by_cases ax:j<s1.length
      ·have gF:=bg.o
       obtain⟨a',c',he,o1,o2,cB⟩:=gF.open;injection he with e1 e2 e3;subst e1 e3;obtain⟨bq,La,rfl,Li⟩:=cB j ax;obtain⟨q0,q1,q2,q3,zx,LV,q9,zy,zH,LW,LX,LY,LZ,L6⟩:=K5 gF ax (Gr.refl _);have HQ:=Kz q9;have sO:=Kz (show jr I (p:Int) (s1.take (j+1))=jr I (p:Int) (s1.take j)++(if q2=I then[((p:Int),q0)] else[]) by rw[pg ax,←zx.o]);have j0:(0:Int)≤(j:Int):=by omega
       have j1:(j:Int)<(s1.length:Int):=by omega
       have L8:=zI1 j (by omega);clear q9 zy zH gF
       by_cases hm:q2=I
       ·have zL:(q2==I)=true:=by simp[hm]
        have HX:=Kz (show os++jr I (p:Int) (s1.take (j+1))=V++[((p:Int),q0)] by rw[sO.o,if_pos hm,ah.o,List.append_assoc]);clear hm
        go_wp2_with (first|(at_builtin;refine eU (α:=ag) (wg:=B) (w0:=B) (tg aZ) (Nat.le_refl _) (tg aZ).size rfl _ _ 254 rfl 181 i0 _ _ Tryz.underlying254 HZ.o.1 HZ.o.2.1 HZ.o.2.2.1 HZ.o.2.2.2 rfl _ Z V (by rfl) (gD.o.gr gd) _ [[]] [((p:Int),q0)] (by rfl) (eT.one (by simp) (bO _ q0 (jm (by omega) (by omega)) HQ.o)) (fun b _=>by simp) (by unfold maxLen;simp;omega) (by simp;omega) ?_;intro v3 w3 h1 h2 h3 h4;have K1:=Kz h1;have K4:=Kz h4;have K2:=Kz ((show Gr W3 _ from gd).eF _ |>.trans h2);have K3:=Kz (show∀b∈v3.ownBlock.toList,b∈(Value.slice rb V.length rd).ownBlock.toList∨W3.heap.size≤b from fun b hb=>h3.elim (fun e=>.inl (by rw[e] at hb;exact hb)) (fun e=>.inr (by rw[e] at hb;simp at hb;omega)));clear h1 h2 h3 h4))
        refine⟨⟨j+1,by omega,⟨Z++[[]],by rw[List.flatten_append,fe.o];rfl,K4.o,by rw[HX.o];exact K1.o,K2.o.aO fu.o (fun hm=>(ai.o _ hm).1 rfl),bg.o.wr K2.o (fun b hb hm=>(ai.o b hm).2 hb),fun b hb=>?_⟩,by go_num⟩,by simp[intOf];omega⟩;rcases K3.o b hb with h|h
        ·exact ai.o b h
        ·have h9:=bg.o.lt
         exact⟨by omega,fun hm=>by have:=h9 b hm;omega⟩
       ·have zL:(q2==I)=false:=by simpa using hm
        have HX:=Kz (show os++jr I (p:Int) (s1.take (j+1))=V by rw[sO.o,if_neg hm,ah.o,List.append_nil]);clear hm;go_wp2_with fail;refine⟨⟨j+1,by omega,⟨Z,fe.o,aZ.o.trans gd,by rw[HX.o];exact gD.o.gr gd,(show Gr W3 _ from gd).keep fu.o,bg.o.gr gd,ai.o⟩,by go_num⟩,by simp[intOf];omega⟩
      ·have zO:j=s1.length:=by omega
       subst zO;have z8:=gD.o;go_wp2_with fail;refine⟨⟨p+1,Z,by omega,fe,aZ.o,?_,by go_num⟩,by simp[intOf];omega⟩;rw[take_length] at ah
       have e:(List.range (p+1)).flatMap (kU (g0,g1) (J,K,q,O,T,U))=V:=by
        rw[ah.o,List.range_succ,List.flatMap_append,bB.o]
        congr 1
        rw[List.flatMap_singleton,y9.o]
       rw[e];exact z8
  ·have A7:p=q.length+1:=by omega
   obtain⟨fq,h1,h2⟩:=HO.o.fresh (by unfold bn;omega) (by rw[HF.o];exact aY.nil _);have H1:=Kz (show SlR fq W1 (.slice ra os.length rc) (mg (g0,g1) (J,K,q,O,T,U)) by rw[A7] at bB;unfold mg;rw[bB.o];exact h1);have H2:=Kz (h2.of_le gB.size);clear h1 h2;go_wp2_with fail;go_ret;exact⟨_,fq,rfl,H1.o,H2.o,bH.o⟩
theorem BB(fr:List Nat)(cr:Array Value)(r:aW d)(w:World)(hr:Rd.rd fr w cr.toList r)(hl:bF r≤1048576):Qz 211 #[.agg cr] w (.bool (pB (j3 r))):=by
 obtain⟨r0,r1,D,r3,O,K,vX,wF,Mf,wL,w9,Mg,xc,x9,Mh,rfl,rfl,-,Mi,Mj,yc,LC,LD,yu,LF,LG,y7,LH,LJ⟩:=KV hr;have zq:=yc.op3;have zu:=yu.op3;have zx:=y7.op3;clear hr;have y8:r0.size+r1.size+wtL ByteArray.size D+wtL aU O+wtL aI K≤1048576:=hl;have y9:r0.size≤2097152:=by omega
 have za:r1.size≤2097152:=by omega
 have Mk:D.length≤1048576:=by have:=bT ByteArray.size D;omega
 have Ml:O.length≤1048576:=by have:=bT aU O;omega
 have Mm:K.length≤1048576:=by have:=bT aI K;omega
 have HL:=Kz y8;clear hl y8
 by_cases hd:dh r0∧dh r1∧D.length≤3∧K.length≤2
 ·have HD:=Kz hd
  have LK:(D.length:Int)≤3:=by have:=hd.2.2.1;omega
  have LM:(K.length:Int)≤2:=by have:=hd.2.2.2;omega
  clear hd;delta Qz;go_in
  go_wp2_with (first|(go_at_call_of 240 r0;refine(bG _ y9 _).mono ?_;rintro e w' ⟨rfl,gT,rfl⟩;rw[bQ HD.o.1])|(go_at_call_of 240 r1;refine(bG _ za _).mono ?_;rintro e w' ⟨rfl,gV,rfl⟩;rw[bQ HD.o.2.1]))
  generalize hB:(((w.alloc (.cells #[.string r0,.string r1,.slice vX D.length wF,.bool r3,.slice wL O.length w9,.slice xc K.length x9] 128)).ext gT).ext gV)=B;have gB:Gr w B:=gb hB;have EB:=kb hB (w.heap.size) 2 (.slice vX D.length wF);have zb:=kb hB (w.heap.size) 4 (.slice wL O.length w9);have ze:=kb hB (w.heap.size) 5 (.slice xc K.length x9);clear hB
  go_loopw [36] (fun s4 wr=>∃k:Nat,k≤D.length∧Ky (∀s∈D.take k,dh s)∧Ky (Gr B wr)∧s4=.int .i64 k) (fun s4 _=>D.length - (intOf s4).toNat)
  case atStart=>exact⟨0,by omega,Kz (by simp),Kz (Gr.refl _),rfl⟩
  case round=>
   obtain⟨k,hk,Y,T,rfl⟩:=hrel
   rename World=>W1
   have y2:=EB _ T.o;have J:=Kz (gB.trans T.o)
   by_cases I:k<D.length
   ·obtain⟨b,off,rfl,hb⟩:=zq k I
    have c1:=J.o.keep (yc.jl I).1;obtain⟨y,hy⟩:=nm (D[k]);rw[←hy] at c1;have zf:y.size≤2097152:=by have h1:=dI ByteArray.size D I;have h2:=HL.o;rw[←hy] at h1;omega
    have HY:=Kz hy;have fe:=Kz (fun h=>dD I Y.o h);have dB:=Kz (getElem_mem I);clear hy;have k0:(0:Int)≤(k:Int):=by omega
    have zg:(k:Int)<(D.length:Int):=by omega
    have iw:=zI1 k (by omega)
    by_cases gF:dh y
    ·have HN:=Kz gF
     clear gF
     go_wp2_with (first|(go_at_call_of 240 y;refine(bG _ zf _).mono ?_;rintro e w' ⟨rfl,E5,rfl⟩;rw[bQ HN.o]))
     exact⟨⟨k+1,by omega,Kz (fe.o (by rw[←HY.o];exact HN.o)),Kz (tg T),by go_num⟩,by simp[intOf];omega⟩
    ·have HN:=Kz gF
     have HF:=Kz (bV (show¬j3 (r0,r1,D,r3,O,K) from fun h=>HN.o (by rw[HY.o];exact h.2.2.2.2.1 _ dB.o)));clear gF
     go_wp2_with (first|(go_at_call_of 240 y;refine(bG _ zf _).mono ?_;rintro e w' ⟨rfl,E5,rfl⟩;rw[bV HN.o]))
     go_ret;exact⟨aa HF.o.symm,J.o.trans gd⟩
   ·obtain rfl:k=D.length:=by omega
    rw[take_length] at Y;have FX:=Y;clear Y y2;have y4:=zb _ T.o;obtain⟨B2,F4⟩:=nm (W1);go_wp2_with fail
    go_loopw [47] (fun s4 wr=>∃k:Nat,k≤O.length∧Ky (∀q∈O.take k,dh q.1.2∧(0≤q.1.1∧q.1.1≤D.length)∧ko D.length q.2)∧Ky (Gr B wr)∧s4=.int .i64 k) (fun s4 _=>O.length - (intOf s4).toNat)
    case atStart=>exact⟨0,by omega,Kz (by simp),T,rfl⟩
    case round=>
     clear y4 T J F4;clear B2;obtain⟨k,hk,Y,T,rfl⟩:=hrel
     rename World=>W2
     have y4:=zb _ T.o;have Z:=gB.trans T.o;have J:=Kz Z
     by_cases I:k<O.length
     ·have fu:=dI aU O I
      have fe:=Kz (fun h=>dD I Y.o h);have dB:=Kz (getElem_mem I);obtain⟨b,off,rfl,F5⟩:=zu k I;obtain⟨gD,dS,ae,ah,ai,aj,ak,au,ax,LP,LQ,LU,F6,dV,F8,zy,zH,gX,ik,kr,ku,ky,lq,zL,Lm,Ls,Ha,He,HV,HZ,H5,IV,KX,K3,K4,K6⟩:=KY yu I Z
      have oH:dS.size+aS (ae,ah,ai,aj,ak,au,ax)≤1048576:=by
       have h2:=HL.o;rw[←dV.o] at fu;have h3:aU (((gD,dS),(ae,ah,ai,aj,ak,au,ax)):aX d)=dS.size+aS (ae,ah,ai,aj,ak,au,ax):=rfl;omega
      have zl:dS.size≤2097152:=by omega
      have zn:=Kz (show aS (ae,ah,ai,aj,ak,au,ax)≤1048576 by omega);have zo:=Kz (bJ ae ah ai aj ak au ax gX ik kr ku ky lq zL);clear fu oH Z zy zH gX ik kr ku ky lq;have k0:(0:Int)≤(k:Int):=by omega
      have zg:(k:Int)<(O.length:Int):=by omega
      have iw:=zI1 k (by omega)
      by_cases hp:dh dS∧(0≤gD∧gD≤D.length)∧ko D.length (ae,ah,ai,aj,ak,au,ax)
      ·have X:=Kz hp
       have hb:(decide (0≤gD)&&decide (gD≤(D.length:Int)))=true:=by rw[decide_eq_true hp.2.1.1,decide_eq_true hp.2.1.2];rfl
       clear hp
       go_wp2_with (first|(go_at_call_of 240 dS;refine(bG _ zl _).mono ?_;rintro e w' ⟨rfl,vR,rfl⟩;rw[bQ X.o.1])|(go_at_call 137;refine(di _ _ _ _).mono ?_;rintro e w' ⟨rfl,rfl⟩;rw[hb])|(go_at_call 242;refine(jH _ _ (ae,ah,ai,aj,ak,au,ax) _ _ (Rd.gr zo.o (tg J)) zn.o).mono ?_;rintro e w' ⟨rfl,x3,rfl⟩;rw[bQ X.o.2.2]))
       exact⟨⟨k+1,by omega,Kz (fe.o (by rw[←dV.o];exact X.o)),Kz (tg T),by go_num⟩,by simp[intOf];omega⟩
      ·have X:=Kz hp
       have HF:=Kz (bV (show¬j3 (r0,r1,D,r3,O,K) from fun h=>X.o (by have h1:=h.2.2.2.2.2.1 _ dB.o;rw[←dV.o] at h1;exact h1)));clear hp
       go_wp2_with (first|(go_at_call_of 240 dS;refine(bG _ zl _).mono ?_;rintro e w' ⟨rfl,vR,rfl⟩)|(go_at_call 137;refine(di _ _ _ _).mono ?_;rintro e w' ⟨rfl,rfl⟩)|(go_at_call 242;refine(jH _ _ (ae,ah,ai,aj,ak,au,ax) _ _ (Rd.gr zo.o (tg J)) zn.o).mono ?_;rintro e w' ⟨rfl,x3,rfl⟩))
       go_ways
       all_goals first
        |(exfalso;refine X.o ⟨dx.1 ?_,?_,dx.1 ?_⟩<;>first|assumption|(simp_all;done))
        |(go_ret;exact⟨aa HF.o.symm,J.o.trans gd⟩)
       
     ·obtain rfl:k=O.length:=by omega
      rw[take_length] at Y;have La:=Y;clear Y;have y5:=ze _ T.o;go_wp2_with fail
      go_loopw [75] (fun s4 wr=>∃k:Nat,k≤K.length∧Ky (∀c∈K.take k,dh c.1∧dh c.2.1∧ko D.length c.2.2.1∧ko D.length c.2.2.2)∧Ky (Gr B wr)∧s4=.int .i64 k) (fun s4 _=>K.length - (intOf s4).toNat)
      case atStart=>exact⟨0,by omega,Kz (by simp),T,rfl⟩
      case round=>
       clear y4 y5 T J Z;obtain⟨k,hk,Y,T,rfl⟩:=hrel
       rename World=>W3
       have y5:=ze _ T.o;have Z:=gB.trans T.o;have J:=Kz Z
       by_cases I:k<K.length
       ·have fu:=dI aI K I
        have fe:=Kz (fun h=>dD I Y.o h);have dB:=Kz (getElem_mem I);obtain⟨b,off,rfl,F5⟩:=zx k I;obtain⟨q0,q1,U,ay,aZ,bg,bq,bB,bH,V,bL,bR,bX,cB,cK,cO,LV,LW,LX,LY,LZ,L6,F6,dV,F8,Li,Lj,oL,o5,o9,qb,q8,q9,zO,Lv,Lx,sO,uf,uo,uq,uz,ve,z8,LA,LB,Ha,He,HV,HZ,H5,IV,KX,K3,K4,Mo,L8,L9,Ma,Mc,Md,Me,K6⟩:=KW y7 I Z
        have oH:q0.size+q1.size+aS (U,ay,aZ,bg,bq,bB,bH)+aS (V,bL,bR,bX,cB,cK,cO)≤1048576:=by
         have h2:=HL.o;rw[←dV.o] at fu;have h3:aI ((q0,q1,(U,ay,aZ,bg,bq,bB,bH),(V,bL,bR,bX,cB,cK,cO)):aD d)=q0.size+q1.size+aS (U,ay,aZ,bg,bq,bB,bH)+aS (V,bL,bR,bX,cB,cK,cO):=rfl;omega
        have vB:q0.size≤2097152:=by omega
        have vD:q1.size≤2097152:=by omega
        have vF:=Kz (show aS (U,ay,aZ,bg,bq,bB,bH)≤1048576 by omega);have vG:=Kz (show aS (V,bL,bR,bX,cB,cK,cO)≤1048576 by omega);have vL:=Kz (bJ U ay aZ bg bq bB bH oL o5 o9 qb q8 q9 zO);have vO:=Kz (bJ V bL bR bX cB cK cO sO uf uo uq uz ve z8);clear fu oH Z Li Lj oL o5 o9 qb q8 q9 sO uf uo uq uz ve;have k0:(0:Int)≤(k:Int):=by omega
        have zg:(k:Int)<(K.length:Int):=by omega
        have iw:=zI1 k (by omega)
        by_cases hp:dh q0∧dh q1∧ko D.length (U,ay,aZ,bg,bq,bB,bH)∧ko D.length (V,bL,bR,bX,cB,cK,cO)
        ·have X:=Kz hp
         clear hp
         go_wp2_with (first|(go_at_call_of 240 q0;refine(bG _ vB _).mono ?_;rintro e w' ⟨rfl,A7,rfl⟩;rw[bQ X.o.1])|(go_at_call_of 240 q1;refine(bG _ vD _).mono ?_;rintro e w' ⟨rfl,BM,rfl⟩;rw[bQ X.o.2.1])|(go_at_call_of 242 U;refine(jH _ _ (U,ay,aZ,bg,bq,bB,bH) _ _ (Rd.gr vL.o (tg J)) vF.o).mono ?_;rintro e w' ⟨rfl,x3,rfl⟩;rw[bQ X.o.2.2.1])|(go_at_call_of 242 V;refine(jH _ _ (V,bL,bR,bX,cB,cK,cO) _ _ (Rd.gr vO.o (tg J)) vG.o).mono ?_;rintro e w' ⟨rfl,x4,rfl⟩;rw[bQ X.o.2.2.2]))
         exact⟨⟨k+1,by omega,Kz (fe.o (by rw[←dV.o];exact X.o)),Kz (tg T),by go_num⟩,by simp[intOf];omega⟩
        ·have X:=Kz hp
         have HF:=Kz (bV (show¬j3 (r0,r1,D,r3,O,K) from fun h=>X.o (by have h1:=h.2.2.2.2.2.2 _ dB.o;rw[←dV.o] at h1;exact h1)));clear hp
         go_wp2_with (first|(go_at_call_of 240 q0;refine(bG _ vB _).mono ?_;rintro e w' ⟨rfl,A7,rfl⟩)|(go_at_call_of 240 q1;refine(bG _ vD _).mono ?_;rintro e w' ⟨rfl,BM,rfl⟩)|(go_at_call_of 242 U;refine(jH _ _ (U,ay,aZ,bg,bq,bB,bH) _ _ (Rd.gr vL.o (tg J)) vF.o).mono ?_;rintro e w' ⟨rfl,x3,rfl⟩)|(go_at_call_of 242 V;refine(jH _ _ (V,bL,bR,bX,cB,cK,cO) _ _ (Rd.gr vO.o (tg J)) vG.o).mono ?_;rintro e w' ⟨rfl,x4,rfl⟩))
         go_ways
         all_goals first
          |(exfalso;refine X.o ⟨dx.1 ?_,dx.1 ?_,dx.1 ?_,dx.1 ?_⟩<;>first|assumption|(simp_all;done))
          |(go_ret;exact⟨aa HF.o.symm,J.o.trans gd⟩)
         
       ·obtain rfl:k=K.length:=by omega
        rw[take_length] at Y;have HF:=Kz (bQ (show j3 (r0,r1,D,r3,O,K) from⟨HD.o.1,HD.o.2.1,HD.o.2.2.1,HD.o.2.2.2,FX.o,La.o,Y.o⟩));go_wp2_with fail;go_ret;exact⟨aa HF.o.symm,J.o⟩
 ·have HD:=Kz hd
  have HF:=Kz (bV (show¬j3 (r0,r1,D,r3,O,K) from fun h=>HD.o ⟨h.1,h.2.1,h.2.2.1,h.2.2.2.1⟩));clear hd;delta Qz;go_in
  go_wp2_with (first|(go_at_call_of 240 r0;refine(bG _ y9 _).mono ?_;rintro e w' ⟨rfl,gT,rfl⟩)|(go_at_call_of 240 r1;refine(bG _ za _).mono ?_;rintro e w' ⟨rfl,gV,rfl⟩))
  go_ways
  all_goals first
   |(exfalso;refine HD.o ⟨dx.1 ‹_›,dx.1 ‹_›,by omega,by omega⟩;done)
   |(go_ret;exact⟨aa HF.o.symm,gd⟩)
  
end Go.Proofs.YtleafadpfeibfaaGreat
