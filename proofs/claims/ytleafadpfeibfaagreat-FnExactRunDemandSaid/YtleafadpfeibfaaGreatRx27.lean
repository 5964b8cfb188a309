/- Contracts and laws towards ReadsOf, part 30 of 54. No condition. -/
import Derived.Test.YtleafadpfeibfaaGreatRx26
set_option maxHeartbeats 32000000
set_option maxRecDepth 10000
set_option linter.unusedVariables false
set_option linter.unusedSimpArgs false
namespace Go.Proofs.YtleafadpfeibfaaGreat
open Go.RowKit
open _root_.List (getElem_mem take_length)
variable{d:Nat}
set_option maxRecDepth 100000 in
theorem uN{fg fr:List Nat}{cg cr:Array Value}(g:af d)(r:aW d)(w:World)(hg:Rd.rd fg w cg.toList g)(hr:Rd.rd fr w cr.toList r)(hl:aP g≤1048576)(hn:r.2.2.1.length≤1048576):
  Calls Tryz.prog 234 #[.agg cg,.agg cr] w (p8 w (mg g r)):=by
 obtain⟨i0,hi⟩:=info_parts Tryz.nX;have HZ:=Kz hi;clear hi;have bB:=Kz hl;clear hl;have HG:=Kz hg;obtain⟨g0,g1,ag0,kg0,Li,ag1,kg1,Lj,rfl,rfl,-,Lm,BM,EB,D,E5,FX⟩:=yt hg;clear hg;have HR:=Kz hr;obtain⟨J,K,q,O,T,U,gX,ik,Ls,iw,kr,Lv,ku,ky,Lx,rfl,rfl,-,LA,LB,LC,F4,F5,LD,F6,F8,LF,Ha,He⟩:=KV hr;clear hr;have LG:q.length≤1048576:=hn;have LH:IntKind.i64.wrap ((q.length:Int)+1)=(q.length:Int)+1:=IntWalk.i64_in _ (by omega);clear hn;go_in;go_wp2_with fail;generalize hB:((w.alloc (.cells #[.slice ag0 g0.length kg0,.slice ag1 g1.length kg1] 39)).alloc (.cells #[.string J,.string K,.slice gX q.length ik,.bool O,.slice iw T.length kr,.slice ku U.length ky] 128))=B;have gB:Gr w B:=gb hB;obtain⟨uz,u6⟩:=kb2 hB (w.heap.size) (.slice ag0 g0.length kg0) (.slice ag1 g1.length kg1);obtain⟨ve,vB,vD,vF,vG,vL⟩:=kb6 hB (w.heap.size+1) (.string J) (.string K) (.slice gX q.length ik) (.bool O) (.slice iw T.length kr) (.slice ku U.length ky);have sB:B.heap.size=w.heap.size+2:=szB hB;clear hB
 go_loopw [6,5] (fun s8 s7 wr=>∃(p:Nat) (fps:List (List Nat)),p≤q.length+1∧Ky (fps.flatten=[])∧Gr B wr∧bE (α:=ag) B 181 wr s7 fps ((List.range p).flatMap (kU (g0,g1) (J,K,q,O,T,U)))∧s8=.int .i64 p) (fun s8 _ _=>q.length+1 - (intOf s8).toNat)
 case atStart=>exact⟨0,[],by omega,Kz rfl,gd,bE.kF (α:=ag) (w0:=B) (w:=B) 181 (Nat.le_refl _) (by omega),rfl⟩
 case round=>
  obtain⟨p,fps,hp,HF,D,hown,rfl⟩:=hrel;obtain⟨os,au⟩:=nm ((List.range p).flatMap (kU (g0,g1) (J,K,q,O,T,U)));rw[←au] at hown
  have vO:os.length≤1048576*p:=by
   rw[au];exact zN bB.o p
  have bH:=Kz au.symm;have vR:=Kz vO;clear au
  rename World=>W1
  have vX:=Kz D;have HO:=Kz hown;obtain⟨ra,rc,X⟩:=hown.form;subst X;have y0:=uz _ D;have y1:=u6 _ D;have y2:=ve _ D;have y3:=vB _ D;have y4:=vD _ D;have y5:=vF _ D;have y6:=vG _ D;have y7:=vL _ D;have wF:=blk y2;have lq:=gB.trans D;have bL:=Kz lq;have wL:=Kz (show∀b∈(Value.slice ra os.length rc).ownBlock.toList,B.heap.size≤b∧b<W1.heap.size from fun b hb=>hown.base b (by simpa using hb));clear hown
  by_cases ax:p≤q.length
  ·have HV:(p:Int)≤(q.length:Int):=by omega
   have p0:(0:Int)≤(p:Int):=by omega
   have LJ:=zI1 p (by omega);obtain⟨S,hS⟩:=nm (j6 (J,K,q,O,T,U) (p:Int));obtain⟨Y,hY⟩:=nm ((bW g0 S).getD dE);have w9:=Kz (show Y.2.length≤1048576 by rw[hY];exact tX bB.o S);have xc:=Kz (show kU (g0,g1) (J,K,q,O,T,U) p=jr (if p=0 then 2 else 1) (p:Int) Y.2 by rw[hY,hS];rfl);have x9:=Kz hY;have yc:=Kz hS;clear hY hS
   go_upto_region 5 with fail
   have yu:=fun(w':World) (h:Gr W1 w')=>(⟨h.keep y0,h.keep y1,h.keep y2,h.keep y3,h.keep y4,h.keep y5,h.keep y6,h.keep y7⟩:_∧_∧_∧_∧_∧_∧_∧_)
   clear lq
   go_cut [7] (fun sp wx=>mK w W1 Y sp wx)
   case first=>
    go_region_held3 (fun w'=>Gr W1 w') (exact ga)
     (first|(go_at_call 158;refine(iG (J,K,q,O,T,U) (p:Int) _ (Rd.gr HR.o (bL.o.trans ga))).mono ?_;rintro e w' ⟨rfl,x2,rfl⟩;rw[←yc.o])|(go_at_call 85;refine(dX (g0,g1) S _ (Rd.gr HG.o (bL.o.trans ga)) bB.o).mono ?_;rintro e w' ⟨es,fq,rfl,hr,oH,x3,rfl⟩;obtain⟨s0,s1,bR,bX,aj,cB,rfl,y8,y9,ak,HY,H5⟩:=Lg (x:=(bW g0 S).getD dE) hr;have za:=Kz cB;have LK:=Lt cB hr;have cK:=ak.op3;clear hr cB;obtain⟨bb,cO⟩:∃b:Bool,b=(bW g0 S).isSome:=⟨_,rfl⟩;rw[←cO];have LM:=Kz cO;clear cO;have zb:=Kz oH;clear oH))
    all_goals
     go_wp2_with fail;go_meet;have hY:Y=(s0,s1):=x9.o.trans za.o.symm;subst hY;have ay:∀c∈aj,c<w.heap.size∨_≤c:=fun c hc=>(zb.o c (by rw[y8.o];simpa using hc)).imp (Rd.lt HG.o c) id
     refine⟨_,.slice bR s1.length bX,aj,rfl,gd,?_,?_,?_,y9,by first|omega|(simp;done)|(simp;omega),fun c hc=>(ay c hc).imp id (fun h=>by simp at h;omega)⟩
     ·go_simp
     ·go_simp
     ·first
       |(refine ak.gr ?_;(repeat(first|exact Gr.refl _|apply Gr.ext|apply Gr.alloc|apply Gr.drew));done)
       |((with_reducible refine ak.mono (dO ?_));exact fun c hc e=>by subst e;have:=ay _ hc;simp at this;omega)
       |((with_reducible refine ak.mono (dM ?_));exact fun c hc e=>by subst e;have:=ay _ hc;simp at this;omega)
       |((with_reducible refine ak.mono (iR ?_));exact fun c hc e=>by subst e;have:=ay _ hc;simp at this;omega)
   case rest=>
    obtain⟨gb,v8,aj,rfl,g2,d0,ze,oL,LP,zf,o5⟩:=hcut;obtain⟨s0,s1⟩:=Y;obtain⟨bR,bX,rfl,-,-,-⟩:=oL.open
    rename World=>W2
    clear yu y0 y1 y2 y3 y4 y5 y6 y7 wF;have o9:=Kz (show s1.length≤1048576 from w9.o);have IV:s1.length≤1048576:=o9.o;have zg:=Kz (vX.o.trans g2);have qb:=HO.o.gr g2;have zl:=Kz ze;have zn:=Kz oL
    have uo:=Kz (show∀b∈(Value.slice ra os.length rc).ownBlock.toList,b≠gb∧b∉aj from fun b hb=>by
     have h1:=wL.o b hb;have h2:=gB.size;exact⟨by omega,fun hm=>by have:=o5 b hm;omega⟩)
    clear o5 g2 zf d0
    go_upto_if 28 with fail
    go_cut [9] (fun sm wr=>∃I:Int,sm=.int .i64 I∧Ky (I=if p=0 then 2 else 1)∧W2=wr)
    case first=>
     by_cases hz:p=0
     ·have zo:((p:Int)==0)=true:=by simp[hz]
      have dB:=Kz hz;clear hz;go_wp2_with fail;go_meet;exact⟨2,rfl,Kz (by rw[if_pos dB.o]),rfl⟩
     ·have zo:((p:Int)==0)=false:=by simpa using hz
      have dB:=Kz hz;clear hz;go_wp2_with fail;go_meet;exact⟨1,rfl,Kz (by rw[if_neg dB.o]),rfl⟩
    case rest=>
     obtain⟨I,rfl,uq,zq⟩:=hcut;subst zq;have zu:=Kz (show kU (g0,g1) (J,K,q,O,T,U) p=jr I (p:Int) s1 by rw[xc.o,←uq.o]);go_wp2_with fail
     go_loopw [10,5] (fun dS s7 wr=>∃j:Nat,j≤s1.length∧OfX B gb (.slice bR s1.length bX) aj s1 (os++jr I (p:Int) (s1.take j)) s7 wr∧dS=.int .i64 j) (fun dS _ _=>s1.length - (intOf dS).toNat)
     case atStart=>exact⟨0,by omega,⟨fps,HF.o,zg.o,by rw[List.take_zero];show bE _ _ _ _ _ (os++[]);rw[List.append_nil];exact qb,zl.o,zn.o,uo.o⟩,rfl⟩
     case round=>
      obtain⟨j,hj,⟨Z,dV,q8,hown,q9,fe,fu⟩,rfl⟩:=hrel;obtain⟨V,ae⟩:=nm (os++jr I (p:Int) (s1.take j));rw[←ae] at hown
      have KX:V.length≤1048576*p+1048576:=by
       rw[ae,List.length_append];have h1:=oI I (p:Int) (s1.take j);have h2:(s1.take j).length≤s1.length:=by rw[List.length_take];omega
       have h3:=o9.o;have h4:=vR.o;omega
      have ah:=Kz ae;have gD:=Kz dV;have aZ:=Kz q8;have gF:=Kz q9;have bg:=Kz fe;have ai:=Kz fu;clear dV q8 q9 fe fu ae
      rename World=>W3
      have gT:=Kz hown;obtain⟨rb,rd,X⟩:=hown.form;subst X;have c3:=gF.o;have LQ:=blk c3;clear hown qb
      by_cases ax:j<s1.length
      ·have gV:=bg.o
       obtain⟨a',c',he,o1,o2,cK⟩:=gV.open;injection he with e1 e2 e3;subst e1 e3;obtain⟨bq,K6,rfl,La⟩:=cK j ax;obtain⟨q0,q1,q2,q3,zx,LU,sO,zy,zH,LV,LW,LX,LY,LZ⟩:=K5 gV ax (Gr.refl _);have HQ:=Kz sO;have uf:=Kz (show jr I (p:Int) (s1.take (j+1))=jr I (p:Int) (s1.take j)++(if q2=I then[((p:Int),q0)] else[]) by rw[pg ax,←zx.o]);have j0:(0:Int)≤(j:Int):=by omega
       have j1:(j:Int)<(s1.length:Int):=by omega
       have L6:=zI1 j (by omega);clear sO zy zH gV
       by_cases hm:q2=I
       ·have zL:(q2==I)=true:=by simp[hm]
        have HX:=Kz (show os++jr I (p:Int) (s1.take (j+1))=V++[((p:Int),q0)] by rw[uf.o,if_pos hm,ah.o,List.append_assoc]);clear hm
        go_wp2_with (first|(at_builtin;refine eU (α:=ag) (wg:=B) (w0:=B) (tg aZ) (Nat.le_refl _) (tg aZ).size rfl _ _ 254 rfl 181 i0 _ _ Tryz.underlying254 HZ.o.1 HZ.o.2.1 HZ.o.2.2.1 HZ.o.2.2.2 rfl _ Z V (by rfl) (gT.o.gr gd) _ [[]] [((p:Int),q0)] (by rfl) (eT.one (by simp) (bO _ q0 (jm (by omega) (by omega)) HQ.o)) (fun b _=>by simp) (by unfold maxLen;simp;omega) (by simp;omega) ?_;intro v3 w3 h1 h2 h3 h4;have K1:=Kz h1;have K4:=Kz h4;have K2:=Kz ((show Gr W3 _ from gd).eF _ |>.trans h2);have K3:=Kz (show∀b∈v3.ownBlock.toList,b∈(Value.slice rb V.length rd).ownBlock.toList∨W3.heap.size≤b from fun b hb=>h3.elim (fun e=>.inl (by rw[e] at hb;exact hb)) (fun e=>.inr (by rw[e] at hb;simp at hb;omega)));clear h1 h2 h3 h4))
        refine⟨⟨j+1,by omega,⟨Z++[[]],by rw[List.flatten_append,gD.o];rfl,K4.o,by rw[HX.o];exact K1.o,K2.o.aO gF.o (fun hm=>(ai.o _ hm).1 rfl),bg.o.wr K2.o (fun b hb hm=>(ai.o b hm).2 hb),fun b hb=>?_⟩,by go_num⟩,by simp[intOf];omega⟩;rcases K3.o b hb with h|h
        ·exact ai.o b h
        ·have h9:=bg.o.lt
         exact⟨by omega,fun hm=>by have:=h9 b hm;omega⟩
       ·have zL:(q2==I)=false:=by simpa using hm
        have HX:=Kz (show os++jr I (p:Int) (s1.take (j+1))=V by rw[uf.o,if_neg hm,ah.o,List.append_nil]);clear hm;go_wp2_with fail;refine⟨⟨j+1,by omega,⟨Z,gD.o,aZ.o.trans gd,by rw[HX.o];exact gT.o.gr gd,(show Gr W3 _ from gd).keep gF.o,bg.o.gr gd,ai.o⟩,by go_num⟩,by simp[intOf];omega⟩
      ·have zO:j=s1.length:=by omega
       subst zO;have z8:=gT.o;go_wp2_with fail;refine⟨⟨p+1,Z,by omega,gD,aZ.o,?_,by go_num⟩,by simp[intOf];omega⟩;rw[take_length] at ah
       have e:(List.range (p+1)).flatMap (kU (g0,g1) (J,K,q,O,T,U))=V:=by
        rw[ah.o,List.range_succ,List.flatMap_append,bH.o]
        congr 1
        rw[List.flatMap_singleton,zu.o]
       rw[e];exact z8
  ·have A7:p=q.length+1:=by omega
   obtain⟨fq,h1,h2⟩:=HO.o.fresh (by unfold bn;omega) (by rw[HF.o];exact aY.nil _);have H1:=Kz (show SlR fq W1 (.slice ra os.length rc) (mg (g0,g1) (J,K,q,O,T,U)) by rw[A7] at bH;unfold mg;rw[bH.o];exact h1);have H2:=Kz (h2.of_le gB.size);clear h1 h2;go_wp2_with fail;go_ret;exact⟨_,fq,rfl,H1.o,H2.o,bL.o⟩
theorem Az(fr:List Nat)(cr:Array Value)(r:aW d)(w:World)(hr:Rd.rd fr w cr.toList r)(hl:bF r≤1048576):Qz 193 #[.agg cr] w (.bool (pB (j3 r))):=by
 obtain⟨r0,r1,D,r3,O,K,vR,vX,Me,wF,wL,Mf,w9,xc,Mg,rfl,rfl,-,Mh,Mi,x9,LB,LC,yc,LD,LF,yu,LG,LH⟩:=KV hr;have zo:=x9.op3;have zq:=yc.op3;have zu:=yu.op3;clear hr;have y7:r0.size+r1.size+wtL ByteArray.size D+wtL aU O+wtL aI K≤1048576:=hl;have y8:r0.size≤2097152:=by omega
 have y9:r1.size≤2097152:=by omega
 have Mj:D.length≤1048576:=by have:=bT ByteArray.size D;omega
 have Mk:O.length≤1048576:=by have:=bT aU O;omega
 have Ml:K.length≤1048576:=by have:=bT aI K;omega
 have HL:=Kz y7;clear hl y7
 by_cases hd:dh r0∧dh r1∧D.length≤3∧K.length≤2
 ·have HD:=Kz hd
  have LJ:(D.length:Int)≤3:=by have:=hd.2.2.1;omega
  have LK:(K.length:Int)≤2:=by have:=hd.2.2.2;omega
  clear hd;delta Qz;go_in
  go_wp2_with (first|(go_at_call_of 231 r0;refine(dN _ y8 _).mono ?_;rintro e w' ⟨rfl,gT,rfl⟩;rw[bQ HD.o.1])|(go_at_call_of 231 r1;refine(dN _ y9 _).mono ?_;rintro e w' ⟨rfl,gV,rfl⟩;rw[bQ HD.o.2.1]))
  generalize hB:(((w.alloc (.cells #[.string r0,.string r1,.slice vR D.length vX,.bool r3,.slice wF O.length wL,.slice w9 K.length xc] 128)).ext gT).ext gV)=B;have gB:Gr w B:=gb hB;have BM:=kb hB (w.heap.size) 2 (.slice vR D.length vX);have za:=kb hB (w.heap.size) 4 (.slice wF O.length wL);have zb:=kb hB (w.heap.size) 5 (.slice w9 K.length xc);clear hB
  go_loopw [4] (fun s4 wr=>∃k:Nat,k≤D.length∧Ky (∀s∈D.take k,dh s)∧Ky (Gr B wr)∧s4=.int .i64 k) (fun s4 _=>D.length - (intOf s4).toNat)
  case atStart=>exact⟨0,by omega,Kz (by simp),Kz (Gr.refl _),rfl⟩
  case round=>
   obtain⟨k,hk,Y,T,rfl⟩:=hrel
   rename World=>W1
   have y2:=BM _ T.o;have J:=Kz (gB.trans T.o)
   by_cases I:k<D.length
   ·obtain⟨b,off,rfl,hb⟩:=zo k I
    have c1:=J.o.keep (x9.jl I).1;obtain⟨y,hy⟩:=nm (D[k]);rw[←hy] at c1;have ze:y.size≤2097152:=by have h1:=dI ByteArray.size D I;have h2:=HL.o;rw[←hy] at h1;omega
    have HY:=Kz hy;have fe:=Kz (fun h=>dD I Y.o h);have dB:=Kz (getElem_mem I);clear hy;have k0:(0:Int)≤(k:Int):=by omega
    have zf:(k:Int)<(D.length:Int):=by omega
    have iw:=zI1 k (by omega)
    by_cases gF:dh y
    ·have HN:=Kz gF
     clear gF
     go_wp2_with (first|(go_at_call_of 231 y;refine(dN _ ze _).mono ?_;rintro e w' ⟨rfl,EB,rfl⟩;rw[bQ HN.o]))
     exact⟨⟨k+1,by omega,Kz (fe.o (by rw[←HY.o];exact HN.o)),Kz (tg T),by go_num⟩,by simp[intOf];omega⟩
    ·have HN:=Kz gF
     have HF:=Kz (bV (show¬j3 (r0,r1,D,r3,O,K) from fun h=>HN.o (by rw[HY.o];exact h.2.2.2.2.1 _ dB.o)));clear gF
     go_wp2_with (first|(go_at_call_of 231 y;refine(dN _ ze _).mono ?_;rintro e w' ⟨rfl,EB,rfl⟩;rw[bV HN.o]))
     go_ret;exact⟨aa HF.o.symm,J.o.trans gd⟩
   ·obtain rfl:k=D.length:=by omega
    rw[take_length] at Y;have E5:=Y;clear Y y2;have y4:=za _ T.o;obtain⟨B2,FX⟩:=nm (W1);go_wp2_with fail
    go_loopw [5] (fun s4 wr=>∃k:Nat,k≤O.length∧Ky (∀q∈O.take k,dh q.1.2∧(0≤q.1.1∧q.1.1≤D.length)∧ko D.length q.2)∧Ky (Gr B wr)∧s4=.int .i64 k) (fun s4 _=>O.length - (intOf s4).toNat)
    case atStart=>exact⟨0,by omega,Kz (by simp),T,rfl⟩
    case round=>
     clear y4 T J FX;clear B2;obtain⟨k,hk,Y,T,rfl⟩:=hrel
     rename World=>W2
     have y4:=za _ T.o;have Z:=gB.trans T.o;have J:=Kz Z
     by_cases I:k<O.length
     ·have fu:=dI aU O I
      have fe:=Kz (fun h=>dD I Y.o h);have dB:=Kz (getElem_mem I);obtain⟨b,off,rfl,F4⟩:=zq k I;obtain⟨gD,dS,ae,ah,ai,aj,ak,au,ax,LM,LP,LQ,F5,dV,F6,zx,zy,gX,ik,kr,ku,ky,lq,zH,Lj,Lm,F8,Ha,He,HV,HZ,H5,IV,KX,K3,K4⟩:=KY yc I Z
      have oH:dS.size+aS (ae,ah,ai,aj,ak,au,ax)≤1048576:=by
       have h2:=HL.o;rw[←dV.o] at fu;have h3:aU (((gD,dS),(ae,ah,ai,aj,ak,au,ax)):aX d)=dS.size+aS (ae,ah,ai,aj,ak,au,ax):=rfl;omega
      have zg:dS.size≤2097152:=by omega
      have zl:=Kz (show aS (ae,ah,ai,aj,ak,au,ax)≤1048576 by omega);have zn:=Kz (bJ ae ah ai aj ak au ax gX ik kr ku ky lq zH);clear fu oH Z zx zy gX ik kr ku ky lq;have k0:(0:Int)≤(k:Int):=by omega
      have zf:(k:Int)<(O.length:Int):=by omega
      have iw:=zI1 k (by omega)
      by_cases hp:dh dS∧(0≤gD∧gD≤D.length)∧ko D.length (ae,ah,ai,aj,ak,au,ax)
      ·have X:=Kz hp
       have hb:(decide (0≤gD)&&decide (gD≤(D.length:Int)))=true:=by rw[decide_eq_true hp.2.1.1,decide_eq_true hp.2.1.2];rfl
       clear hp
       go_wp2_with (first|(go_at_call_of 231 dS;refine(dN _ zg _).mono ?_;rintro e w' ⟨rfl,vO,rfl⟩;rw[bQ X.o.1])|(go_at_call 96;refine(fI _ _ _ _).mono ?_;rintro e w' ⟨rfl,rfl⟩;rw[hb])|(go_at_call 233;refine(jy _ _ (ae,ah,ai,aj,ak,au,ax) _ _ (Rd.gr zn.o (tg J)) zl.o).mono ?_;rintro e w' ⟨rfl,x3,rfl⟩;rw[bQ X.o.2.2]))
       exact⟨⟨k+1,by omega,Kz (fe.o (by rw[←dV.o];exact X.o)),Kz (tg T),by go_num⟩,by simp[intOf];omega⟩
      ·have X:=Kz hp
       have HF:=Kz (bV (show¬j3 (r0,r1,D,r3,O,K) from fun h=>X.o (by have h1:=h.2.2.2.2.2.1 _ dB.o;rw[←dV.o] at h1;exact h1)));clear hp
       go_wp2_with (first|(go_at_call_of 231 dS;refine(dN _ zg _).mono ?_;rintro e w' ⟨rfl,vO,rfl⟩)|(go_at_call 96;refine(fI _ _ _ _).mono ?_;rintro e w' ⟨rfl,rfl⟩)|(go_at_call 233;refine(jy _ _ (ae,ah,ai,aj,ak,au,ax) _ _ (Rd.gr zn.o (tg J)) zl.o).mono ?_;rintro e w' ⟨rfl,x3,rfl⟩))
       go_ways
       all_goals first
        |(exfalso;refine X.o ⟨dx.1 ?_,?_,dx.1 ?_⟩<;>first|assumption|(simp_all;done))
        |(go_ret;exact⟨aa HF.o.symm,J.o.trans gd⟩)
       
     ·obtain rfl:k=O.length:=by omega
      rw[take_length] at Y;have K6:=Y;clear Y;have y5:=zb _ T.o;go_wp2_with fail
      go_loopw [7] (fun s4 wr=>∃k:Nat,k≤K.length∧Ky (∀c∈K.take k,dh c.1∧dh c.2.1∧ko D.length c.2.2.1∧ko D.length c.2.2.2)∧Ky (Gr B wr)∧s4=.int .i64 k) (fun s4 _=>K.length - (intOf s4).toNat)
      case atStart=>exact⟨0,by omega,Kz (by simp),T,rfl⟩
      case round=>
       clear y4 y5 T J Z;obtain⟨k,hk,Y,T,rfl⟩:=hrel
       rename World=>W3
       have y5:=zb _ T.o;have Z:=gB.trans T.o;have J:=Kz Z
       by_cases I:k<K.length
       ·have fu:=dI aI K I
        have fe:=Kz (fun h=>dD I Y.o h);have dB:=Kz (getElem_mem I);obtain⟨b,off,rfl,F4⟩:=zu k I;obtain⟨q0,q1,U,ay,aZ,bg,bq,bB,bH,V,bL,bR,bX,cB,cK,cO,LU,LV,LW,LX,LY,LZ,F5,dV,F6,La,Li,oL,o5,o9,qb,q8,q9,zL,Ls,Lv,sO,uf,uo,uq,uz,u6,zO,Lx,LA,F8,Ha,He,HV,HZ,H5,IV,KX,K3,Mm,L6,L8,L9,Ma,Mc,Md,K4⟩:=KW yu I Z
        have oH:q0.size+q1.size+aS (U,ay,aZ,bg,bq,bB,bH)+aS (V,bL,bR,bX,cB,cK,cO)≤1048576:=by
         have h2:=HL.o;rw[←dV.o] at fu;have h3:aI ((q0,q1,(U,ay,aZ,bg,bq,bB,bH),(V,bL,bR,bX,cB,cK,cO)):aD d)=q0.size+q1.size+aS (U,ay,aZ,bg,bq,bB,bH)+aS (V,bL,bR,bX,cB,cK,cO):=rfl;omega
        have ve:q0.size≤2097152:=by omega
        have vB:q1.size≤2097152:=by omega
        have vD:=Kz (show aS (U,ay,aZ,bg,bq,bB,bH)≤1048576 by omega);have vF:=Kz (show aS (V,bL,bR,bX,cB,cK,cO)≤1048576 by omega);have vG:=Kz (bJ U ay aZ bg bq bB bH oL o5 o9 qb q8 q9 zL);have vL:=Kz (bJ V bL bR bX cB cK cO sO uf uo uq uz u6 zO);clear fu oH Z La Li oL o5 o9 qb q8 q9 sO uf uo uq uz u6;have k0:(0:Int)≤(k:Int):=by omega
        have zf:(k:Int)<(K.length:Int):=by omega
        have iw:=zI1 k (by omega)
        by_cases hp:dh q0∧dh q1∧ko D.length (U,ay,aZ,bg,bq,bB,bH)∧ko D.length (V,bL,bR,bX,cB,cK,cO)
        ·have X:=Kz hp
         clear hp
         go_wp2_with (first|(go_at_call_of 231 q0;refine(dN _ ve _).mono ?_;rintro e w' ⟨rfl,z8,rfl⟩;rw[bQ X.o.1])|(go_at_call_of 231 q1;refine(dN _ vB _).mono ?_;rintro e w' ⟨rfl,A7,rfl⟩;rw[bQ X.o.2.1])|(go_at_call_of 233 U;refine(jy _ _ (U,ay,aZ,bg,bq,bB,bH) _ _ (Rd.gr vG.o (tg J)) vD.o).mono ?_;rintro e w' ⟨rfl,x3,rfl⟩;rw[bQ X.o.2.2.1])|(go_at_call_of 233 V;refine(jy _ _ (V,bL,bR,bX,cB,cK,cO) _ _ (Rd.gr vL.o (tg J)) vF.o).mono ?_;rintro e w' ⟨rfl,x4,rfl⟩;rw[bQ X.o.2.2.2]))
         exact⟨⟨k+1,by omega,Kz (fe.o (by rw[←dV.o];exact X.o)),Kz (tg T),by go_num⟩,by simp[intOf];omega⟩
        ·have X:=Kz hp
         have HF:=Kz (bV (show¬j3 (r0,r1,D,r3,O,K) from fun h=>X.o (by have h1:=h.2.2.2.2.2.2 _ dB.o;rw[←dV.o] at h1;exact h1)));clear hp
         go_wp2_with (first|(go_at_call_of 231 q0;refine(dN _ ve _).mono ?_;rintro e w' ⟨rfl,z8,rfl⟩)|(go_at_call_of 231 q1;refine(dN _ vB _).mono ?_;rintro e w' ⟨rfl,A7,rfl⟩)|(go_at_call_of 233 U;refine(jy _ _ (U,ay,aZ,bg,bq,bB,bH) _ _ (Rd.gr vG.o (tg J)) vD.o).mono ?_;rintro e w' ⟨rfl,x3,rfl⟩)|(go_at_call_of 233 V;refine(jy _ _ (V,bL,bR,bX,cB,cK,cO) _ _ (Rd.gr vL.o (tg J)) vF.o).mono ?_;rintro e w' ⟨rfl,x4,rfl⟩))
         go_ways
         all_goals first
          |(exfalso;refine X.o ⟨dx.1 ?_,dx.1 ?_,dx.1 ?_,dx.1 ?_⟩<;>first|assumption|(simp_all;done))
          |(go_ret;exact⟨aa HF.o.symm,J.o.trans gd⟩)
         
       ·obtain rfl:k=K.length:=by omega
        rw[take_length] at Y;have HF:=Kz (bQ (show j3 (r0,r1,D,r3,O,K) from⟨HD.o.1,HD.o.2.1,HD.o.2.2.1,HD.o.2.2.2,E5.o,K6.o,Y.o⟩));go_wp2_with fail;go_ret;exact⟨aa HF.o.symm,J.o⟩
 ·have HD:=Kz hd
  have HF:=Kz (bV (show¬j3 (r0,r1,D,r3,O,K) from fun h=>HD.o ⟨h.1,h.2.1,h.2.2.1,h.2.2.2.1⟩));clear hd;delta Qz;go_in
  go_wp2_with (first|(go_at_call_of 231 r0;refine(dN _ y8 _).mono ?_;rintro e w' ⟨rfl,gT,rfl⟩)|(go_at_call_of 231 r1;refine(dN _ y9 _).mono ?_;rintro e w' ⟨rfl,gV,rfl⟩))
  go_ways
  all_goals first
   |(exfalso;refine HD.o ⟨dx.1 ‹_›,dx.1 ‹_›,by omega,by omega⟩;done)
   |(go_ret;exact⟨aa HF.o.symm,gd⟩)
  
end Go.Proofs.YtleafadpfeibfaaGreat
