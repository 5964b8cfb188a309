/- Contracts and laws towards ReadsOf, part 51 of 54. No condition. -/
import Derived.Deep.WholeRow
import Derived.Test.YtleafadpfeibfaaGreatRx48
import Derived.Test.YtleafadpfeibfaaGreatRx47
import Derived.Test.YtleafadpfeibfaaGreatRx49
set_option maxHeartbeats 32000000
set_option maxRecDepth 10000
set_option linter.unusedVariables false
set_option linter.unusedSimpArgs false
namespace Go.Proofs.YtleafadpfeibfaaGreat
open Go.RowKit
open _root_.List (length_map)
open _root_.Nat (le_refl)
variable{d:Nat}
variable{fg ft:List Nat}{n m i kg0 kg1 kt:Nat}{out nx:List Int}{g:af d}{W E w0:World}{cg:Array Value}{r:Int}{ag0 ag1 at_:Option Addr}
def hOf(ss:List bC)(hs:List Int)(n:ByteArray):Int:=if atS ss n<0 then 0 else hs.getD (atS ss n).toNat 0
theorem GR(ss:List bC)(hs:List Int)(n:ByteArray):vK ss hs n=decide (0<hOf ss hs n):=by
 unfold vK hOf
 by_cases h:atS ss n<0
 ·rw[if_pos h,decide_eq_false (by omega:¬0≤atS ss n)];rfl
 ·rw[if_neg h,decide_eq_true (by omega:0≤atS ss n)];rfl
theorem Dn(g:af d)(out:List Int)(name:ByteArray)(Z c b:Nat)(w:World)(hg:Rd.rd fg w cg.toList g)(vg:az w Z 39 cg.toList)(box:w.cell? ⟨c,0,none⟩=some (.slice (some ⟨b,0,none⟩) g.1.length g.1.length))(row:jZ w b 3 out)(len:out.length=g.1.length):
  Qz 180 #[.string name,.pointer (some ⟨Z,0,none⟩),.pointer (some ⟨c,0,none⟩)] w (.int .i64 (hOf g.1 out name)):=by
 obtain⟨g0,g1,ag0,kg0,bR,ag1,kg1,bX,rfl,rfl,-,T,ay,aZ,cB,bq,bB⟩:=yt hg;have ae:=T.op3;clear hg;have U:w.cell? ⟨Z,0,none⟩=some (.slice ag0 g0.length kg0):=vg.c 0;have au:=blk U;have ah:=Kz (show out.length=g0.length from len);have ai:=Kz row;have aj:=Kz (show w.cell? ⟨c,0,none⟩=some (.slice (some ⟨b,0,none⟩) g0.length g0.length) from box);obtain⟨V,D⟩:=nm (hOf g0 out name);have I:=Kz D
 show Calls _ _ _ _ fun e w'=>e=.returned (.int .i64 (hOf g0 out name))∧Gr w w'
 rw[←D];clear vg box row len D;(try delta Qz);go_in;go_wp2_with fail;clear U au
 go_loopw [10] (fun J wr=>∃k:Nat,k≤g0.length∧Ky (∀j (h:j<g0.length),j<k→decide (g0[j].1=name)=false)∧Ky (Gr w wr)∧J=.int .i64 k) (fun J _=>g0.length - (intOf J).toNat)
 case atStart=>exact⟨0,by omega,Kz (fun j h O=>by omega),Kz gd,rfl⟩
 case round=>
  obtain⟨k,hk,HT,B,rfl⟩:=hrel
  rename World=>W1
  by_cases K:k<g0.length
  ·have ax:=B.o
   obtain⟨b,off,rfl,cK⟩:=ae k K;obtain⟨q0,q1,cO,dB,dS,dV,X,fe,fu,gB,bH,bL,gD,gF,gT⟩:=K9 T K ax;have k0:(0:Int)≤(k:Int):=by omega
   have k1:(k:Int)<(g0.length:Int):=by omega
   have iw:=zI1 k (by omega);have Y:k<out.length:=by have:=ah.o;omega
   have zc:=B.o.keep aj.o;have zo:=B.o.keep (ai.o.cell Y);have gV:=blk zc;have gX:=blk zo
   by_cases q:q0=name
   ·have HE:=Kz (show V=out[k] by
     have h1:atS g0 name=k:=iH K (decide_eq_true (by rw[←X.o];exact q)) HT.o;rw[I.o];unfold hOf;rw[h1,if_neg (by omega)];simp[List.getD_eq_getElem?_getD,List.getElem?_eq_getElem Y])
    subst q;go_wp2_with fail;go_ret;exact⟨aC HE.o.symm,B.o.trans gd⟩
   ·have E:=Kz q
    have e:(q0.toList==name.toList)=false:=by simpa using fun e=>q (str_inj e)
    clear q;go_wp2_with fail;refine⟨⟨k+1,by omega,Kz fun j O ik=>?_,Kz (tg B),by go_num⟩,by simp[intOf];omega⟩
    by_cases ak:j<k
    ·exact HT.o j O ak
    ·obtain rfl:j=k:=by omega
     rw[←X.o];exact decide_eq_false E.o
  ·have HE:=Kz (show V=0 by
    have h1:atS g0 name= -1:=gu (fun j O=>HT.o j O (by omega));rw[I.o];unfold hOf;rw[h1];rfl)
   go_wp2_with fail;go_ret;exact⟨aC HE.o.symm,B.o.trans gd⟩
structure HtS(w0:World)(cg:List Value)(bg c b n:Nat)(W:World)(out:List Int):Prop where
 gr:Gr w0 W
 vg:az W bg 39 cg
 box:az W c 54 [.slice (some ⟨b,0,none⟩) n n]
 row:jZ W b 3 out
 len:out.length=n
 ge:w0.heap.size≤c∧w0.heap.size≤b∧c≠b∧c≠bg∧b≠bg
theorem HtS.grow{W':World}{cg:List Value}{q c b:Nat}(h:HtS w0 cg q c b n W out)(hg:Gr W W'):HtS w0 cg q c b n W' out:=
 ⟨h.gr.trans hg,h.vg.gr hg,h.box.gr hg,az.gr h.row hg,h.len,h.ge⟩
theorem HtS.set{cg:List Value}{B c b:Nat}(h:HtS w0 cg B c b n W out){q:Nat}(hb:w0.heap.size≤q∧q≠B∧q≠c∧q≠b)(o:Nat)(v:Value):HtS w0 cg B c b n (W.setCell ⟨q,o,none⟩ v) out:=
 ⟨Gr.setCell h.gr hb.1 v,h.vg.ne hb.2.1.symm,h.box.ne hb.2.2.1.symm,az.ne h.row hb.2.2.2.symm,h.len,h.ge⟩
def lu(g:af d)(out:List Int)(n:ByteArray)(r:Int)(i:Nat)(nx:List Int)(m:Nat):List Int:=if (g.2.take m).any (nU g.1 out n)=true then nx.set i r else nx
theorem Er{n:ByteArray}(h:m<g.2.length):lu g out n r i nx (m+1)=if nU g.1 out n g.2[m]=true then(lu g out n r i nx m).set i r else lu g out n r i nx m:=by
 unfold lu;rw[List.take_succ_eq_append_getElem h,List.any_append];simp only[List.any_cons,List.any_nil,Bool.or_false,Bool.or_eq_true]
 by_cases h1:(g.2.take m).any (nU g.1 out n)=true
 ·rw[if_pos (.inl h1),if_pos h1]
  split<;>simp
 ·rw[if_neg h1]
  by_cases q:nU g.1 out n g.2[m]=true
  ·rw[if_pos (.inr q),if_pos q]
  ·rw[if_neg (fun h=>h.elim h1 q),if_neg q]
theorem FR(g:af d)(out:List Int)(n:ByteArray)(r:Int)(i:Nat)(nx:List Int)(m:Nat):(lu g out n r i nx m).length=nx.length:=by
 unfold lu
 split<;>simp
theorem Fy(hi:i<g.1.length)(q:out.getD i 0=0):lu g out g.1[i].1 r i nx g.2.length=ry g out r nx i:=by
 unfold lu ry;rw[List.take_length]
 show(if mJ g out g.1[i].1=true then nx.set i r else nx)=_
 have B:g.1.getD i (⟨#[]⟩,[])=g.1[i]:=by simp[List.getD_eq_getElem?_getD,List.getElem?_eq_getElem hi]
 rw[B]
 by_cases h:mJ g out g.1[i].1=true
 ·rw[if_pos h,if_pos ⟨q,h⟩]
 ·rw[if_neg h,if_neg (fun k=>h k.2)]
theorem Eh(q:out.getD i 0≠0):ry g out r nx i=nx:=if_neg fun h=>q h.1
def Kr(g:af d)(w:World)(e:Ending)(w':World):Prop:=∃v fq,e=.returned v∧SlR fq w' v (hts g g.1.length)∧Gr w w'
theorem uG:JM d:=by
 intro fg cg g w hg hl hn ai
 obtain⟨i0,hi,ve,fe,vB⟩:=info_parts Tryz.kJ;have O:=fun(W:World)=>run_make (P:=Tryz.prog) W 54 3 i0 (.int .i64 0) Tryz.underlying54 hi ve .i64 .i64 g.1.length g.1.length (by omega) (by omega) (by rw[vB];omega) (by omega)
 have zO:=Kz (show(Tryz.prog.info? 3).map (·.size)=some 1 from by rw[hi];simp[fe]);rw[fe] at O;clear hi ve fe vB;simp only[Int.toNat_natCast,Nat.mul_one] at O;have bg:=Kz (fun W:World=>jZ.made W g.1.length 3);have vD:(Value.int .i64 0).cells=#[.int .i64 0]:=rfl;rw[vD] at O;generalize madeCells #[.int .i64 0] g.1.length=C1 at O bg;clear vD;have HG:=Kz hg;obtain⟨g0,g1,ag0,kg0,Ma,ag1,kg1,Mc,rfl,rfl,-,vF,LJ,LK,vG,LM,LP⟩:=yt hg;have zq:=vF.op3;have zu:=vG.op3;clear hg;have Md:0<g0.length:=hn;have LQ:g0.length≤1000:=ai
 change Ky (∀W:World,jZ (W.alloc (.cells C1 3)) W.heap.size 3 (List.replicate g0.length 0)) at bg
 change ∀W:World,_=Result.ok (Value.slice _ g0.length g0.length) _ at O
 clear hn ai hl;have z8:=Kz (show Rd.rd fg w (Array.toList #[.slice ag0 g0.length kg0,.slice ag1 g1.length kg1]) (g0,g1) from HG.o);obtain⟨Z,aj⟩:∃Z:List Value,Z=[.slice ag0 g0.length kg0,.slice ag1 g1.length kg1]:=⟨_,rfl⟩;have vL:=Kz (fun(W:World) (h:az W w.heap.size 39 Z)=>show W.cell? ⟨w.heap.size,0,none⟩=some (.slice ag0 g0.length kg0) by rw[aj] at h;exact h.c 0);have A7:=Kz (fun(W:World) (h:az W w.heap.size 39 Z)=>show W.cell? ⟨w.heap.size,1,none⟩=some (.slice ag1 g1.length kg1) by rw[aj] at h;exact h.c 1);have BM:=Kz (fun(W:World) (h:az W w.heap.size 39 Z)=>show az W w.heap.size 39 (Array.toList #[.slice ag0 g0.length kg0,.slice ag1 g1.length kg1]) by rw[aj] at h;exact h)
 show Calls _ _ _ _ (Kr (g0,g1) w)
 go_in;go_wp2_with fail;obtain⟨B,hB⟩:=nm (((w.alloc (.cells #[.slice ag0 g0.length kg0,.slice ag1 g1.length kg1] 39)).alloc (.cells C1 3)).alloc (.cells #[.slice (some ⟨w.heap.size+1,0,none⟩) g0.length g0.length] 54));rw[←hB]
 have vO:HtS w Z w.heap.size (w.heap.size+1+1) (w.heap.size+1) g0.length B (hts (g0,g1) 0):=by
  rw[hB,aj];refine⟨gd,(az.new (A:=w) rfl).gr gd,az.new (by simp),?_,by simp[hts],by omega,by omega,by omega,by omega,by omega⟩;have h:=bg.o (w.alloc (.cells #[.slice ag0 g0.length kg0,.slice ag1 g1.length kg1] 39));rw[show(w.alloc (.cells #[.slice ag0 g0.length kg0,.slice ag1 g1.length kg1] 39)).heap.size=w.heap.size+1 by simp] at h;exact az.gr h gd
 have EB:=Kz vO;have E5:=Kz O;clear hB vO O aj
 go_loopw [5] (fun s5 wr=>∃(k X:Nat),k≤g0.length∧Ky (HtS w Z w.heap.size (w.heap.size+1+1) X g0.length wr (hts (g0,g1) k))∧s5=.int .i64 ((k:Int)+1)) (fun s5 _=>g0.length+1 - (intOf s5).toNat)
 case atStart=>exact⟨0,w.heap.size+1,by omega,EB,rfl⟩
 case round=>
  obtain⟨k,X,hk,D,rfl⟩:=hrel
  rename World=>J
  have y0:J.cell? ⟨w.heap.size,0,none⟩=some (.slice ag0 g0.length kg0):=vL.o _ D.o.vg;have yc:=D.o.box.box;have fu:=blk y0;have gB:=blk yc;have vR:=Ay (g0,g1) k hk;have gD:∀y∈hts (g0,g1) k,0≤y∧y≤(g0.length:Int):=vR.2;obtain⟨q,ax⟩:=nm (hts (g0,g1) k);rw[←ax] at D gD;have gF:=Kz ax;have gT:=Kz gD;have LU:=D.o.ge;have zx:=D.o.row.lt;have T:=Kz D.o.len;clear vR ax gD
  by_cases U:k<g0.length
  ·have FX:(k:Int)+1≤(g0.length:Int):=by omega
   have Me:IntKind.i64.wrap ((k:Int)+1+1)=(k:Int)+1+1:=IntWalk.i64_in _ (by omega);have O:=E5.o
   have ay:C1.size=g0.length:=by
    have h:=bg.o J;have h2:(J.alloc (.cells C1 3)).heap[J.heap.size]?=_:=h;rw[heap_alloc_new] at h2;injection h2 with h2;injection h2 with h2;rw[h2];simp
   have F4:(Builtin.copy_ #[54,54] 3 #[.slice (some ⟨J.heap.size,0,none⟩) g0.length g0.length,.slice (some ⟨X,0,none⟩) g0.length g0.length]).run Tryz.prog (J.alloc (.cells C1 3))=.ok (goInt g0.length) (J.alloc (.cells (q.map (Value.int .i64)).toArray 3)):=by
    have h:=run_copy_row (P:=Tryz.prog) (J.alloc (.cells C1 3)) 54 54 3 3 J.heap.size 0 g0.length g0.length ⟨X,0,none⟩ g0.length g0.length C1 3 (q.map (Value.int .i64)) Tryz.underlying54 zO.o (heap_alloc_new J _) (by rw[length_map,T.o];exact(Nat.min_self _).symm) (fun j v hj=>by
     obtain⟨F5,rfl⟩:=List.getElem?_eq_some_iff.1 hj;have h3:=(az.gr D.o.row (gd:Gr J (J.alloc (.cells C1 3)))).cell F5;have zy:(⟨X,0,none⟩:Addr).add j=⟨X,j,none⟩:=by unfold Addr.add;split<;>simp_all
     rw[zy];simpa using h3) (by rw[length_map,T.o,ay];omega) (fun v hv=>by
     obtain⟨y,-,rfl⟩:=List.mem_map.1 hv;rfl)
    rw[World.setRow_alloc_new] at h
    have e:(C1.toList.take 0++q.map (Value.int .i64)++C1.toList.drop (0+(q.map (Value.int .i64)).length)).toArray=(q.map (Value.int .i64)).toArray:=by
     rw[length_map,T.o,Nat.zero_add,List.drop_eq_nil_of_le (by rw[Array.length_toList,ay];exact le_refl _)];simp
    rw[e,length_map,T.o] at h;exact h
   go_wp2_with fail;clear F4 O;obtain⟨W2,bq⟩:=nm (J.alloc (.cells (q.map (Value.int .i64)).toArray 3));rw[←bq];have vX:=D.o.grow (show Gr J W2 by rw[bq];exact gd);have ae:jZ W2 J.heap.size 3 q:=by rw[bq];exact az.new rfl
   obtain⟨Y,gV⟩:=nm (J.heap.size)
   have ai:w.heap.size≤Y∧Y≠w.heap.size∧Y≠w.heap.size+1+1∧Y≠X:=by
    have h1:=D.o.gr.size;have h2:=D.o.box.lt;have h3:=D.o.vg.lt;rw[gV];omega
   rw[←gV] at ae ⊢;have wF:=Kz vX;have bB:=Kz ae;have wL:=Kz ai;clear bq vX ae gV ai y0 yc fu gB D zx ay;clear J
   go_loopw [35] (fun gX wr=>∃i:Nat,i≤g0.length∧Ky (HtS w Z w.heap.size (w.heap.size+1+1) X g0.length wr q)∧Ky (jZ wr Y 3 (mP (g0,g1) q ((k:Int)+1) i))∧gX=.int .i64 i) (fun gX _=>g0.length - (intOf gX).toNat)
   case atStart=>exact⟨0,by omega,wF,bB,rfl⟩
   case round=>
    clear wF bB;obtain⟨i,hi,I,ak,rfl⟩:=hrel
    rename World=>W3
    have y0:W3.cell? ⟨w.heap.size,0,none⟩=some (.slice ag0 g0.length kg0):=vL.o _ I.o.vg;have y1:W3.cell? ⟨w.heap.size,1,none⟩=some (.slice ag1 g1.length kg1):=A7.o _ I.o.vg;have yc:=I.o.box.box;have fu:=blk y0;have gB:=blk yc;have ik:=Kz (show(mP (g0,g1) q ((k:Int)+1) i).length=g0.length by rw[(Bf (g:=(g0,g1)) (out:=q) (r:=(k:Int)+1) (M:=(g0.length:Int)) (by omega) gT.o i).1,T.o])
    by_cases U:i<g0.length
    ·have au:=I.o.gr
     have bH:i<q.length:=by rw[T.o];exact U
     have zo:=I.o.row.cell bH;have F6:=blk zo;have Mf:(0:Int)≤(i:Int):=by omega
     have Mg:(i:Int)<(g0.length:Int):=by omega
     have Mh:=zI1 i (by omega);obtain⟨b,off,rfl,F8⟩:=zq i U;obtain⟨q0,q1,bR,bX,Mi,Mj,Ha,Mk,Ml,Mm,LV,LW,He,HY,HZ⟩:=K9 vF U au;have H5:=gT.o _ (List.getElem_mem bH);obtain⟨oi,iw⟩:=nm (q[i]);rw[←iw] at zo H5;have w9:=Kz (show q.getD i 0=oi by rw[iw];simp[List.getD_eq_getElem?_getD,List.getElem?_eq_getElem bH]);have kr:=Kz (tL (g0,g1) q ((k:Int)+1) i);clear iw bH
     by_cases h0:0<oi
     ·have cB:=Kz (kr.o.trans (Eh (by rw[w9.o];omega)))
      go_wp2_with fail;exact⟨⟨i+1,by omega,Kz (I.o.grow gd),Kz (by rw[cB.o];exact az.gr ak.o gd),by go_num⟩,by simp[intOf];omega⟩
     ·have cB:=Kz (show lu (g0,g1) q q0 ((k:Int)+1) i (mP (g0,g1) q ((k:Int)+1) i) g1.length=mP (g0,g1) q ((k:Int)+1) (i+1) from by
       rw[kr.o,←Fy (g:=(g0,g1)) U (by rw[w9.o];omega)]
       show lu (g0,g1) q q0 _ i _ g1.length=lu (g0,g1) q g0[i].1 _ i _ g1.length
       rw[←Ha.o])
      go_wp2_with fail;obtain⟨W4,cK⟩:=nm (W3.alloc (.cells #[.string q0,.slice bR q1.length bX] 123));rw[←cK];have g4:Gr W3 W4:=by rw[cK];exact gd
      have ku:az W4 W3.heap.size 123 [.string q0,.slice bR q1.length bX]:=by rw[cK];exact az.new rfl
      have aZ:W3.heap.size≠Y:=by have:=ak.o.lt;omega
      obtain⟨bs,xc⟩:=nm (W3.heap.size);rw[←xc] at ku aZ ⊢;have yu:=Kz (I.o.grow g4);have ky:=Kz (show jZ W4 Y 3 (lu (g0,g1) q q0 ((k:Int)+1) i (mP (g0,g1) q ((k:Int)+1) i) 0) from az.gr ak.o g4);have y5:=Kz ku;have IV:=Kz aZ;obtain⟨NX,y7⟩:=nm (mP (g0,g1) q ((k:Int)+1) i);rw[←y7] at ky cB ik;clear cK g4 ku aZ xc y7 I ak kr y0 y1 yc fu gB zo F6 He HY HZ au;clear W3
      go_loopw [48] (fun lq wr=>∃m:Nat,m≤g1.length∧Ky (HtS w Z w.heap.size (w.heap.size+1+1) X g0.length wr q)∧Ky (jZ wr Y 3 (lu (g0,g1) q q0 ((k:Int)+1) i NX m))∧Ky (az wr bs 123 [.string q0,.slice bR q1.length bX])∧lq=.int .i64 m) (fun lq _=>g1.length - (intOf lq).toNat)
      case atStart=>exact⟨0,by omega,yu,ky,y5,rfl⟩
      case round=>
       clear yu ky y5;obtain⟨m,hm,cO,oH,o5,rfl⟩:=hrel
       rename World=>W5
       have KX:=Kz (show(lu (g0,g1) q q0 ((k:Int)+1) i NX m).length=g0.length by rw[FR,ik.o])
       by_cases U:m<g1.length
       ·have au:=cO.o.gr
        have y8:=Kz (Er (g:=(g0,g1)) (out:=q) (n:=q0) (r:=(k:Int)+1) (i:=i) (nx:=NX) (m:=m) U);obtain⟨b,off,rfl,F8⟩:=zu m U;obtain⟨r0,r1,V,r3,r4,r5,K3,K4,Mo,K6,La,Mq,Li,Lj,Mr,Ms,Lm,Mt,Mv,Mw,ae,LX,LY,Mx,LZ,L6,MB,L8,L9,Ls,Lv,Lx,LA,LB,LC,LD⟩:=Lf vG U au;have zH:=ae.op3;have m0:(0:Int)≤(m:Int):=by omega
        have m1:(m:Int)<(g1.length:Int):=by omega
        have MC:=zI1 m (by omega);have y9:W5.cell? ⟨bs,0,none⟩=some (.string q0):=o5.o.c 0;have LF:=blk y9;have bB:=Kz ae;have za:Ky (nU g0 q q0 g1[m]=(decide (r1=q0)&&V.all (vK g0 q))):=Kz (by rw[←Lm.o];rfl);go_wp2_with fail
        have o9:(r1.toList==q0.toList)=decide (r1=q0):=by
         by_cases h:r1=q0
         ·subst h;simp
         ·rw[decide_eq_false h];simpa using fun e=>h (str_inj e)
        rw[o9];obtain⟨W6,qb⟩:=nm (W5.alloc (.cells #[.string r0,.string r1,.slice K3 V.length K4,.bool r3,.slice K6 r4.length La,.slice Li r5.length Lj] 128));rw[←qb];have g6:Gr W5 W6:=by rw[qb];exact gd
        have zb:=Kz (cO.o.grow g6);have ze:=Kz (show jZ W6 Y 3 (lu (g0,g1) q q0 ((k:Int)+1) i NX m) from az.gr oH.o g6);have zf:=Kz (o5.o.gr g6);obtain⟨q8,q9⟩:=nm (decide (r1=q0));rw[←q9] at za ⊢;clear qb g6 cO oH o5 au Ls Lv Lx LA LB LC LD y9 LF o9 q9
        go_loopw [60,11] (fun sO LG wr=>∃(p:Nat) (gb:Bool),p≤V.length∧Ky (HtS w Z w.heap.size (w.heap.size+1+1) X g0.length wr q)∧Ky (jZ wr Y 3 (lu (g0,g1) q q0 ((k:Int)+1) i NX m))∧Ky (az wr bs 123 [.string q0,.slice bR q1.length bX])∧Ky (gb=(q8&&(V.take p).all (vK g0 q)))∧sO=.int .i64 p∧LG=.bool gb) (fun sO _ _=>V.length - (intOf sO).toNat)
        case atStart=>exact⟨0,q8,by omega,zb,ze,zf,Kz (by simp),rfl,rfl⟩
        case round=>
         clear zb ze zf;obtain⟨p,gb,hp,K,ah,dB,dS,rfl,rfl⟩:=hrel
         rename World=>W7
         by_cases uf:p<V.length
         ·obtain⟨bL,oL,rfl,ME⟩:=zH p uf
          have cL:=K.o.gr.keep (bB.o.jl uf).1;have zL:=blk cL;have p0:(0:Int)≤(p:Int):=by omega
          have p1:(p:Int)<(V.length:Int):=by omega
          have MF:=zI1 p (by omega)
          have uo:=Kz (show(q8&&(V.take (p+1)).all (vK g0 q))=(gb&&decide (0<hOf g0 q V[p])) by
           rw[List.take_succ_eq_append_getElem uf,List.all_append,dS.o];simp[GR,Bool.and_assoc])
          cases gb with
          |false=>
           go_wp2_with fail;exact⟨⟨p+1,false,by omega,Kz (K.o.grow gd),Kz (az.gr ah.o gd),Kz (dB.o.gr gd),Kz (by rw[uo.o];rfl),by go_num,rfl⟩,by simp[intOf];omega⟩
          |true=>
           obtain⟨HV,uq⟩:=nm (hOf g0 q V[p]);rw[←uq] at uo;have LH:=Kz uq;clear uq;go_wp2_with fail;refine(Dn (g0,g1) q V[p] w.heap.size (w.heap.size+1+1) X _ (Rd.gr z8.o (K.o.gr.trans gd)) ((BM.o _ K.o.vg).gr gd) ((gd:Gr W7 _).keep K.o.box.box) (az.gr K.o.row gd) K.o.len).mono ?_;rw[show hOf ((g0,g1):af d).1 q V[p]=HV from LH.o.symm];rintro e w' ⟨rfl,x9,rfl⟩;go_wp2_with fail;exact⟨⟨p+1,decide (0<HV),by omega,Kz (K.o.grow gd),Kz (az.gr ah.o gd),Kz (dB.o.gr gd),Kz (by rw[uo.o];rfl),by go_num,rfl⟩,by simp[intOf];omega⟩
         ·obtain rfl:p=V.length:=by omega
          rw[List.take_length,←za.o] at dS;have zn:=ah.o.cell (k:=i) (by rw[KX.o];omega);have fn:=az.frozen ah.o i;have MG:=blk zn
          cases gb with
          |false=>
           have uz:=Kz (y8.o.trans (if_neg (fun h=>by rw[show nU g0 q q0 g1[m]=false from dS.o.symm] at h;cases h)));go_wp2_with fail;exact⟨⟨m+1,by omega,Kz (K.o.grow gd),Kz (by rw[uz.o];exact az.gr ah.o gd),Kz (dB.o.gr gd),by go_num⟩,by simp[intOf];omega⟩
          |true=>
           have uz:=Kz (y8.o.trans (if_pos (show nU g0 q q0 g1[m]=true from dS.o.symm)));go_wp2_with fail;exact⟨⟨m+1,by omega,Kz (K.o.set (by have:=wL.o;omega) _ _),Kz (by rw[uz.o];exact ah.o.set i ((k:Int)+1)),Kz (dB.o.ne IV.o),by go_num⟩,by simp[intOf];omega⟩
       ·obtain rfl:m=g1.length:=by omega
        go_wp2_with fail;exact⟨⟨i+1,by omega,Kz (cO.o.grow gd),Kz (by rw[←cB.o];exact az.gr oH.o gd),by go_num⟩,by simp[intOf];omega⟩
    ·obtain rfl:i=g0.length:=by omega
     have zg:=Kz (show hts (g0,g1) (k+1)=mP (g0,g1) q ((k:Int)+1) g0.length by rw[wD,←gF.o]);have fc:=I.o.box.frozen 0;go_wp2_with fail;refine⟨⟨k+1,Y,by omega,Kz ?_,by go_num⟩,by simp[intOf];omega⟩;have hn:=wL.o;have dV:=I.o.ge;refine⟨Gr.setCell I.o.gr dV.1 _,I.o.vg.ne dV.2.2.2.1.symm,?_,?_,by rw[zg.o];exact ik.o,dV.1,hn.1,hn.2.2.1.symm,dV.2.2.2.1,hn.2.1⟩
     ·have:=I.o.box.set 0 (.slice (some ⟨Y,0,none⟩) g0.length g0.length)
      exact this
     ·rw[zg.o]
      exact az.ne ak.o hn.2.2.1
  ·obtain rfl:k=g0.length:=by omega
   have FX:¬((g0.length:Int)+1≤(g0.length:Int)):=by omega
   go_wp2_with fail;go_ret;obtain⟨fo,zl,-⟩:=lF.slR (rest:=[]) (w:=J) (b:=X) (xs:=q) (by unfold lF;rw[List.append_nil];exact D.o.row) (fun y hy=>by have:=gT.o y hy;omega) (by rw[T.o];omega) (cap:=g0.length) (by rw[T.o];exact le_refl _);rw[T.o] at zl;exact⟨_,fo,rfl,by rw[←gF.o];exact zl.gr gd,D.o.gr.trans gd⟩
theorem Tryz.Ee:(Tryz.prog.info? 4).map (fun i=>(i.zero,i.size,i.bytes))=some (some (.bool false),1,1):=by kernel_rfl
theorem Tryz.Ev:(Tryz.prog.info? 34).map (fun i=>(i.zero,i.size,i.bytes))=some (some (.slice none 0 0),1,24):=by kernel_rfl
theorem Ja{w1:World}{v0 v1 v2 v3:Value}{L:List av}{bz bv bk bs br:Nat}{B D q:Array Value}(hn:n≤64)(I:B.toList=List.replicate n (.int .i64 0))(J:D.toList=List.replicate n (.slice none 0 0))(K:q.toList=List.replicate n (.bool false))(hg:Gr w1 W)
  (hz:az W bz 85 [v0,v1,v2,v3,.slice (some ⟨bv,0,none⟩) n n,.slice (some ⟨bk,0,none⟩) n n,.slice (some ⟨bs,0,none⟩) n n,.slice (some ⟨br,0,none⟩) n n,.int .i64 0,.bool false])
  (hv:W.heap[bv]?=some (.cells B 3)) (hk:W.heap[bk]?=some (.cells q 4)) (hs:W.heap[bs]?=some (.cells q 4)) (hr:W.heap[br]?=some (.cells D 34))
  (O:[bz,bv,bk,bs,br].Nodup) (h:w1.heap.size≤bz∧w1.heap.size≤bv∧w1.heap.size≤bk∧w1.heap.size≤bs∧w1.heap.size≤br):ImC w1 v0 v1 v2 v3 L n bz bv bk bs br [bz,bv,bk,bs,br] (Eng.new n) false W:=by
 have Y:B=((List.replicate n (0:Int)).map (Value.int .i64)).toArray:=Array.toList_inj.1 (by simp[I]);have T:q=(List.replicate n (Value.bool false)).toArray:=Array.toList_inj.1 (by simp[K]);have Z:br<W.heap.size:=(Array.getElem?_eq_some_iff.1 hr).1;obtain⟨A,U⟩:∃A:World,A.heap.size=br:=⟨{W with heap:=W.heap.extract 0 br},by simp;omega⟩;have hm:=bE.Jv (w0:=w1) (w:=A) 34 (by omega) n (gm.mk w1.heap.size 45 []) (by rfl) (fun W=>gm.GG _ _ W) J (by unfold maxLen;omega);rw[U] at hm
 have V:bE (α:=gm w1.heap.size 45) w1 34 W (.slice (some ⟨br,0,none⟩) n n) (List.replicate n []) (List.replicate n (gm.mk w1.heap.size 45 [])):=hm.same (fun b hb=>by simp at hb) (fun b hb=>by
  obtain rfl:=ownB hb;rw[hr];exact(gH U.symm).symm)
 refine⟨hg,hz,?_,?_,?_,⟨List.replicate n [],?_,by simp,by simp,by simp⟩,O,?_,by simp[Eng.new],by simp[Eng.new],by simp[Eng.new],?_⟩
 ·unfold jZ az
  rw[hv,Y];rfl
 ·unfold az
  rw[hk,T];simp[Eng.new]
 ·unfold az
  rw[hs,T];simp[Eng.new]
 ·simpa[Eng.new,l7] using V
 ·intro b hb
  simp at hb;rcases hb with rfl|rfl|rfl|rfl|rfl
  ·exact h.1
  ·exact h.2.1
  ·exact h.2.2.1
  ·exact h.2.2.2.1
  ·exact h.2.2.2.2
 ·intro x X
  simp[Eng.new] at X;rw[X.2]
  decide
theorem heap_drew{A:World}:A.drew.heap[n]?=A.heap[n]?:=rfl
theorem wm{q B D I:Obj}(h:E.heap.size=m):((((E.alloc q).alloc B).alloc D).alloc I).drew.heap[m]?=some q:=by
 subst h;rw[heap_drew];exact(dU (by simp<;>omega)).trans ((dU (by simp<;>omega)).trans ((dU (by simp<;>omega)).trans (gH rfl)))
theorem vV{B q D I:Obj}(h:E.heap.size=m):((((E.alloc B).alloc q).alloc D).alloc I).drew.heap[m+1]?=some q:=by
 subst h;rw[heap_drew];exact(dU (by simp<;>omega)).trans ((dU (by simp<;>omega)).trans (gH (by simp)))
theorem wz{B D q I:Obj}(h:E.heap.size=m):((((E.alloc B).alloc D).alloc q).alloc I).drew.heap[m+1+1]?=some q:=by
 subst h;rw[heap_drew];exact(dU (by simp<;>omega)).trans (gH (by simp))
theorem vW{B D I q:Obj}(h:E.heap.size=m):((((E.alloc B).alloc D).alloc I).alloc q).drew.heap[m+1+1+1]?=some q:=by
 subst h;rw[heap_drew];exact gH (by simp)
def Kw(w:World)(g:af d)(t:List aT)(ag0:Option Addr)(kg0:Nat)(ag1:Option Addr)(kg1:Nat)(at_:Option Addr)(kt:Nat)(e:Ending)(w':World):Prop:=
 ∃(w1:World) (aL:Option Addr) (kL bz bv bk bs br:Nat) (fp:List Nat),e=.returned (.tuple #[.pointer (some ⟨bz,0,none⟩),.bool true])∧Gr w w1∧(∃fl,SlR fl w1 (.slice aL (bU g t).length kL) (bU g t))∧
  ImC w1 (.slice ag0 g.1.length kg0) (.slice ag1 g.2.length kg1) (.slice at_ t.length kt) (.slice aL (bU g t).length kL) (bU g t) (bU g t).length bz bv bk bs br fp (Eng.new (bU g t).length) false w'
theorem AU(g:af d)(t:List aT)(w:World)(hg:Rd.rd fg w [.slice ag0 g.1.length kg0,.slice ag1 g.2.length kg1] g)(ht:Rd.rd ft w [.slice at_ t.length kt] t)(hl:aP g≤1048576)(hgood:jI g)(ai:fP g t=true):
  Calls Tryz.prog 42 #[.agg #[.slice ag0 g.1.length kg0,.slice ag1 g.2.length kg1],.agg #[.slice at_ t.length kt]] w (Kw w g t ag0 kg0 ag1 kg1 at_ kt):=by
 have hn:=jX hgood ai;have HG:=Kz hg;have HT:=Kz ht;have au:=Kz hl;have aj:=Kz hgood;have dV:=Kz ai;obtain⟨L,hL⟩:=nm (bU g t);have HL:=Kz hL;rw[←hL] at hn;have HN:=Kz hn;obtain⟨i0,hi,ax,ay,aZ⟩:=info_parts Tryz.kJ;have Y:=fun(W:World)=>run_make (P:=Tryz.prog) W 54 3 i0 (.int .i64 0) Tryz.underlying54 hi ax .i64 .i64 L.length L.length (by omega) (by omega) (by rw[aZ];omega) (by omega)
 rw[ay] at Y;obtain⟨i1,gi,bg,bq,bB⟩:=info_parts Tryz.Ev;have Z:=fun(W:World)=>run_make (P:=Tryz.prog) W 83 34 i1 (.slice none 0 0) Tryz.underlying83 gi bg .i64 .i64 L.length L.length (by omega) (by omega) (by rw[bB];omega) (by omega)
 rw[bq] at Z;obtain⟨i2,fi,bH,bL,bR⟩:=info_parts Tryz.Ee;have ae:=fun(W:World)=>run_make (P:=Tryz.prog) W 55 4 i2 (.bool false) Tryz.underlying55 fi bH .i64 .i64 L.length L.length (by omega) (by omega) (by rw[bR];omega) (by omega)
 rw[bL] at ae;clear hi ax ay aZ gi bg bq bB fi bH bL bR;simp only[Int.toNat_natCast,Nat.mul_one] at Y Z ae;have bX:(Value.int .i64 0).cells=#[.int .i64 0]:=rfl;have cB:(Value.slice none 0 0).cells=#[.slice none 0 0]:=rfl;have cK:(Value.bool false).cells=#[.bool false]:=rfl;rw[bX] at Y;rw[cB] at Z;rw[cK] at ae;have cO:=Kz (show(madeCells #[.slice none 0 0] L.length).toList=List.replicate L.length (.slice none 0 0) by rw[toList_madeCells_one]);have dB:=Kz (show(madeCells #[.int .i64 0] L.length).toList=List.replicate L.length (.int .i64 0) by rw[toList_madeCells_one]);have dS:=Kz (show(madeCells #[.bool false] L.length).toList=List.replicate L.length (.bool false) by rw[toList_madeCells_one]);generalize madeCells #[.int .i64 0] L.length=C1 at Y dB;generalize madeCells #[.slice none 0 0] L.length=C2 at Z cO;generalize madeCells #[.bool false] L.length=C3 at ae dS;clear bX cB cK;clear hg ht hl hgood ai hL hn;go_in;go_wp2_with fail;obtain⟨B,hB⟩:=nm ((w.alloc (.cells #[.slice ag0 g.1.length kg0,.slice ag1 g.2.length kg1] 39)).alloc (.cells #[.slice at_ t.length kt] 43));rw[←hB];have gB:Gr w B:=by rw[hB];exact gd
 have I:=Kz gB;have VG:=Kz (show az B w.heap.size 39 [.slice ag0 g.1.length kg0,.slice ag1 g.2.length kg1] by rw[hB];exact(az.new rfl).gr gd);have VT:=Kz (show az B (w.heap.size+1) 43 [.slice at_ t.length kt] by rw[hB];exact az.new (by simp));obtain⟨d0,d1⟩:=VG.o.c2;have d2:B.cell? ⟨w.heap.size+1,0,none⟩=some (.slice at_ t.length kt):=VT.o.c 0;have k0:=fun(w':World) (h:Gr B w')=>(⟨h.keep d0,h.keep d1,h.keep d2⟩:_∧_∧_)
 clear hB gB;refine(uu xG uG g _ (Rd.gr HG.o I.o) au.o).mono ?_;rw[bQ aj.o];rintro e D1 ⟨rfl,g1⟩;go_simp;go_wp2_with fail;refine(nG g t _ (Rd.gr HG.o (I.o.trans g1)) (Rd.gr HT.o (I.o.trans g1))).mono ?_;rw[dV.o];rintro e D2 ⟨rfl,g2⟩;have J:=g1.trans g2;clear g1 g2;go_simp;go_wp2_with fail;refine wp_region_held_drew (S:=(fun w'=>Gr B w')) (by kernel_rfl) (J.trans (gd:Gr D2 D2.drew)) (fun ak=>?_);refine aK 0 17 ?_;refine aK 1 18 ?_;refine aK 2 19 ?_;refine aK 3 20 ?_;refine gy [4] ?_;refine AllReadyH.cons rfl (fun K hK=>?_) AllReadyH.nil;go_simp
 go_at_call 56
 refine(yB g t _ (Rd.gr HG.o (I.o.trans (J.trans gd))) (Rd.gr HT.o (I.o.trans (J.trans gd))) au.o).mono ?_;rintro e w1 ⟨v,fq,rfl,hs,fe,g1⟩;rw[←HL.o] at hs;obtain⟨aL,kL,rfl,-,-,-⟩:=hs.open;have HS:=Kz hs;have ah:Gr B w1:=J.trans (Gr.trans gd g1);clear hs fe g1;refine hK.out _ _ ah (fun fu=>?_);clear hK K
 try simp only[Act.put,uq1,uq2,uq3]
 refine aK 5 22 ?_
 refine gy [6] ?_
 refine AllReadyH.cons rfl (fun K hK=>?_) AllReadyH.nil
 go_simp;refine hK.out _ _ (ah.trans gd) (fun gF=>?_);clear hK K
 try simp only[Act.put,uq1,uq2,uq3]
 refine aK 7 6 ?_
 refine wpAnyH_done (by kernel_rfl) ?_ _
 skip;obtain⟨D,hD⟩:=nm (w1.alloc (.cells #[.slice ag0 g.1.length kg0,.slice ag1 g.2.length kg1,.slice at_ t.length kt,.slice aL L.length kL,.slice none 0 0,.slice none 0 0,.slice none 0 0,.slice none 0 0,.int .i64 0,.bool false] 85));have gD:Gr w1 D:=by rw[hD];exact gd
 have O:=Kz (show az D w1.heap.size 85 [.slice ag0 g.1.length kg0,.slice ag1 g.2.length kg1,.slice at_ t.length kt,.slice aL L.length kL,.slice none 0 0,.slice none 0 0,.slice none 0 0,.slice none 0 0,.int .i64 0,.bool false] by rw[hD];exact az.new rfl);have gT:=Kz gD;have gV:=Kz (I.o.trans ah);rw[←hD];have c3:D.cell? ⟨w1.heap.size,3,none⟩=some (.slice aL L.length kL):=O.o.c 3;have zc:=blk c3;clear hD gD k0 d0 d1 d2 ah J fu gF ak;go_wp2_with fail;have c4:D.cell? ⟨w1.heap.size,4,none⟩=some (.slice none 0 0):=O.o.c 4;have c5:D.cell? ⟨w1.heap.size,5,none⟩=some (.slice none 0 0):=O.o.c 5;have c6:D.cell? ⟨w1.heap.size,6,none⟩=some (.slice none 0 0):=O.o.c 6;have c7:D.cell? ⟨w1.heap.size,7,none⟩=some (.slice none 0 0):=O.o.c 7;have f4:=O.o.frozen;have gX:=Kz (fun(T U V X:Value)=>show az ((((D.setCell ⟨w1.heap.size,4,none⟩ T).setCell ⟨w1.heap.size,5,none⟩ U).setCell ⟨w1.heap.size,6,none⟩ V).setCell ⟨w1.heap.size,7,none⟩ X) w1.heap.size 85 [.slice ag0 g.1.length kg0,.slice ag1 g.2.length kg1,.slice at_ t.length kt,.slice aL L.length kL,T,U,V,X,.int .i64 0,.bool false] from(((O.o.set 4 T).set 5 U).set 6 V).set 7 X);have ik:=Kz (fun(T U V X:Value)=>show Gr w1 ((((D.setCell ⟨w1.heap.size,4,none⟩ T).setCell ⟨w1.heap.size,5,none⟩ U).setCell ⟨w1.heap.size,6,none⟩ V).setCell ⟨w1.heap.size,7,none⟩ X) from Gr.setCell (Gr.setCell (Gr.setCell (Gr.setCell gT.o (le_refl _) _) (le_refl _) _) (le_refl _) _) (le_refl _) _);have q:=Kz (fun(T U V X:Value)=>show((((D.setCell ⟨w1.heap.size,4,none⟩ T).setCell ⟨w1.heap.size,5,none⟩ U).setCell ⟨w1.heap.size,6,none⟩ V).setCell ⟨w1.heap.size,7,none⟩ X).heap.size=D.heap.size by simp);clear c3
 go_cut [6] (fun s6 wr=>∃(bv bk bs br:Nat) (fp:List Nat),s6=.pointer (some ⟨w1.heap.size,0,none⟩)∧ImC w1 (.slice ag0 g.1.length kg0) (.slice ag1 g.2.length kg1) (.slice at_ t.length kt) (.slice aL L.length kL) L L.length w1.heap.size bv bk bs br fp (Eng.new L.length) false wr)
 case first=>
  go_region
  all_goals
   go_wp2_with fail;go_meet;refine⟨_,_,_,_,_,rfl,Ja HN.o dB.o cO.o dS.o ((ik.o _ _ _ _).trans (Gr.drew (Gr.alloc (Gr.alloc (Gr.alloc (Gr.alloc (Gr.refl _) _) _) _) _))) ((gX.o _ _ _ _).gr (Gr.drew (Gr.alloc (Gr.alloc (Gr.alloc (Gr.alloc (Gr.refl _) _) _) _) _))) ?_ ?_ ?_ ?_ ?_ ?_⟩
   ·first|with_reducible exact wm (q.o _ _ _ _)|with_reducible exact vV (q.o _ _ _ _)|with_reducible exact wz (q.o _ _ _ _)|with_reducible exact vW (q.o _ _ _ _)
   ·first|with_reducible exact wm (q.o _ _ _ _)|with_reducible exact vV (q.o _ _ _ _)|with_reducible exact wz (q.o _ _ _ _)|with_reducible exact vW (q.o _ _ _ _)
   ·first|with_reducible exact wm (q.o _ _ _ _)|with_reducible exact vV (q.o _ _ _ _)|with_reducible exact wz (q.o _ _ _ _)|with_reducible exact vW (q.o _ _ _ _)
   ·first|with_reducible exact wm (q.o _ _ _ _)|with_reducible exact vV (q.o _ _ _ _)|with_reducible exact wz (q.o _ _ _ _)|with_reducible exact vW (q.o _ _ _ _)
   ·simp;omega
   ·simp;omega
 case rest=>
  obtain⟨bv,bk,bs,br,fp,rfl,hc⟩:=hcut;go_wp2_with fail;have hL:=HL.o;subst hL;exact bodyPost_ret (v:=.tuple #[.pointer (some ⟨w1.heap.size,0,none⟩),.bool true]) (by simp[results,Tryz.results42,go_sem]) rfl ⟨w1,aL,kL,w1.heap.size,bv,bk,bs,br,fp,rfl,gV.o,⟨fq,HS.o⟩,hc.grow gd⟩
theorem Cg(g:af d)(t:List aT)(w:World)(hg:Rd.rd fg w [.slice ag0 g.1.length kg0,.slice ag1 g.2.length kg1] g)(ht:Rd.rd ft w [.slice at_ t.length kt] t)(T:aP g≤1048576)(O:kT g t=false):
  Qz 42 #[.agg #[.slice ag0 g.1.length kg0,.slice ag1 g.2.length kg1],.agg #[.slice at_ t.length kt]] w (.tuple #[.pointer none,.bool false]):=by
 have U:=Kz hg;have HT:=Kz ht;have V:=Kz T;have X:=Kz O;clear hg ht T O;delta Qz;go_in;go_wp2_with fail;obtain⟨B,I⟩:=nm ((w.alloc (.cells #[.slice ag0 g.1.length kg0,.slice ag1 g.2.length kg1] 39)).alloc (.cells #[.slice at_ t.length kt] 43));rw[←I];have Y:Gr w B:=by rw[I];exact gd
 have J:=Kz Y;have Z:=Kz (show az B w.heap.size 39 [.slice ag0 g.1.length kg0,.slice ag1 g.2.length kg1] by rw[I];exact(az.new rfl).gr gd);have VT:=Kz (show az B (w.heap.size+1) 43 [.slice at_ t.length kt] by rw[I];exact az.new (by simp));clear I Y;refine(uu xG uG g _ (Rd.gr U.o J.o) V.o).mono ?_
 by_cases q:jI g
 ·rw[bQ q]
  have ae:=Kz (show fP g t=false by
   have h:=X.o;unfold kT at h;rw[bQ q] at h;simpa using h)
  clear q;rintro e K ⟨rfl,g1⟩;have D:=Kz (J.o.trans g1);have d0:K.cell? ⟨w.heap.size,0,none⟩=some (.slice ag0 g.1.length kg0):=g1.keep (Z.o.c 0);have d1:K.cell? ⟨w.heap.size,1,none⟩=some (.slice ag1 g.2.length kg1):=g1.keep (Z.o.c 1);have d2:K.cell? ⟨w.heap.size+1,0,none⟩=some (.slice at_ t.length kt):=g1.keep (VT.o.c 0);clear g1;go_simp;go_wp2_with fail;refine(nG g t _ (Rd.gr U.o D.o) (Rd.gr HT.o D.o)).mono ?_;rw[ae.o];rintro e D2 ⟨rfl,g2⟩;have ah:=Kz (D.o.trans g2);clear g2;go_simp;go_wp2_with fail;exact bodyPost_ret (v:=.tuple #[.pointer none,.bool false]) (by simp[results,Tryz.results42,go_sem]) rfl ⟨rfl,ah.o.trans gd⟩
 ·rw[bV q]
  clear q;rintro e K ⟨rfl,g1⟩;have D:=Kz (J.o.trans g1);clear g1;go_simp;go_wp2_with fail;exact bodyPost_ret (v:=.tuple #[.pointer none,.bool false]) (by simp[results,Tryz.results42,go_sem]) rfl ⟨rfl,D.o.trans gd⟩
theorem ImC.Et{v0 v1 v2 v3:Value}{L:List av}{bz bv bk bs br:Nat}{fp:List Nat}{s:Eng}{cyc:Bool}(h:ImC w0 v0 v1 v2 v3 L n bz bv bk bs br fp s cyc W){k:Nat}(hk:k<n)(O:(s.reads.getD k []).length≤2000):
  ∃q B fq,W.cell? ⟨br,k,none⟩=some (.slice q (l7 L (s.reads.getD k [])).length B)∧SlR fq W (.slice q (l7 L (s.reads.getD k [])).length B) (l7 L (s.reads.getD k []))∧aY w0 fq:=by
 obtain⟨T,K,hc,-,I,D,-⟩:=h.push hk;obtain⟨fq,hs,J⟩:=I.fresh (by unfold l7;rw[length_map];unfold bn;omega) (by rw[D];exact aY.nil _);obtain⟨q,B,rfl,-,-,-⟩:=hs.open;exact⟨q,B,fq,hc,hs,J⟩
theorem KQ(g:af d)(t:List aT)(x:av)(w:World)(hg:Rd.rd fg w [.slice ag0 g.1.length kg0,.slice ag1 g.2.length kg1] g)(ht:Rd.rd ft w [.slice at_ t.length kt] t)(bB:(Lit.int .i64 x.1).wf=true)(bH:x.2.size≤maxLen)(hl:aP g≤1048576)(bL:gY t≤1048576):
  Calls Tryz.prog 14 #[.agg #[.slice ag0 g.1.length kg0,.slice ag1 g.2.length kg1],.agg #[.slice at_ t.length kt],.agg #[.int .i64 x.1,.string x.2]] w fun e w'=>(readsOf g t x).length≤2000∧p8 w (readsOf g t x) e w':=by
 have HG:=Kz hg;have HT:=Kz ht;have au:=Kz hl;have fu:=Kz bL;have HX:=Kz (And.intro bB bH);obtain⟨h,q⟩:=x;clear hg ht hl bL bB bH
 by_cases D:kT g t=true
 ·have ae:=Kz (show jI g from dx.1 (by unfold kT at D;simp at D;exact D.1))
  have bR:=Kz (show fP g t=true by unfold kT at D;simp at D;exact D.2);have I:=Kz (show readsOf g t (h,q)=(match sW g t [(h,q)] with|none=>[]|some s=>if gL (bU g t) (h,q)<0 then[] else(s.reads.getD (gL (bU g t) (h,q)).toNat []).map fun j=>(bU g t).getD j iN) by unfold readsOf;rw[if_pos D];cases sW g t [(h,q)]<;>rfl);clear D;go_in;go_wp2_with fail;obtain⟨B,hB⟩:=nm (((w.alloc (.cells #[.slice ag0 g.1.length kg0,.slice ag1 g.2.length kg1] 39)).alloc (.cells #[.slice at_ t.length kt] 43)).alloc (.cells #[.int .i64 h,.string q] 45));rw[←hB];have gB:Gr w B:=by rw[hB];exact gd
  have K:=Kz gB;have VX:=Kz (show az B (w.heap.size+1+1) 45 [.int .i64 h,.string q] by rw[hB];exact az.new (by simp));clear hB gB;refine(AU g t _ (Rd.gr HG.o K.o) (Rd.gr HT.o K.o) au.o ae.o bR.o).mono ?_;rintro e W2 ⟨w1,aL,kL,bz,bv,bk,bs,br,fp,rfl,g1,⟨fl,ah⟩,hc⟩;have ai:=Kz (K.o.trans g1);have X:=Kz (g1.trans hc.gr);obtain⟨L,hL⟩:=nm (bU g t);rw[←hL] at ah hc I;have gD:=Kz ah;have HC:=Kz hc;have HE:=Kz (show EnvD w1 g t L ag0 kg0 ag1 kg1 at_ kt aL kL from⟨⟨fg,Rd.gr HG.o ai.o⟩,⟨ft,Rd.gr HT.o ai.o⟩,⟨fl,ah⟩,ae.o,bR.o,hL,au.o,fu.o⟩);have dS:=Kz (Dy (bz:=bz) (bv:=bv) (bk:=bk) (bs:=bs) (br:=br) HE.o L.length);obtain⟨Y,O⟩:=nm (gL L (h,q));obtain⟨RG,ax⟩:=nm (yH g t L L.length (Eng.new L.length) Y (-1))
  have dV:=Kz (show sW g t [(h,q)]=RG.map (·.2) by
   rw[ax,O,hL];rfl)
  rw[dV.o,←O] at I;have gF:=Kz O;have gT:=Kz ax;have gV:=Kz (show Y<L.length∧-1≤Y by rw[O];have:=kS L (h,q);omega);have gX:=Kz (fun W=>bZ (w:=W) h q HX.o.1 HX.o.2);have bX:=Kz (fun x:Ext=>wH L (h,q) (W2.ext x) (gD.o.gr (HC.o.gr.trans gd)) (gX.o _));rw[←O] at bX;obtain⟨y0,y1,y2,y3,y9⟩:=hc.fixed;have zy:=blk y0;have f3:W2.cell? ⟨w.heap.size+1+1,0,none⟩=some (.int .i64 h):=X.o.keep (VX.o.c 0);have f4:W2.cell? ⟨w.heap.size+1+1,1,none⟩=some (.string q):=X.o.keep (VX.o.c 1);have zf:=blk f3;clear g1 ah hc hL O ax;go_simp;go_wp2_with fail;refine wg ?_
  iterate 7 (go_big_quiet_step (first|(go_at_call 43;exact aG (bX.o _))))
  refine wq fun x2=>?_
  obtain⟨W5,ay⟩:=nm (W2.ext x2);have g5:Gr W2 W5:=by rw[ay];exact gd
  rw[←ay];have ik:=Kz (HC.o.grow g5);have iw:=Kz (X.o.trans g5);have q3:=g5.keep f3;have q4:=g5.keep f4;clear ay g5 y0 y1 y2 y3 y9 zy f3 f4 zf
  by_cases V:Y<0
  ·have T:=Kz (show readsOf g t (h,q)=[] by
    rw[I.o]
    cases RG with
    |none=>rfl
    |some p=>exact if_pos V)
   have hd:decide (Y<0)=true:=by simpa using V
   clear V;go_wp2_with fail;go_ret;rw[T.o];exact⟨by decide,_,[],rfl,⟨_,0,rfl,by simp,by simp,.inl ⟨rfl,rfl⟩⟩,aY.nil _,K.o.trans (tg iw)⟩
  ·obtain⟨k,rfl⟩:∃k:Nat,Y=k:=⟨Y.toNat,by omega⟩
   have cB:=Kz (show k<L.length by have:=gV.o.1;omega);have hd:decide ((k:Int)<0)=false:=by simp
   clear V;go_wp2_with fail;refine(dS.o fp (some (Eng.new L.length)) _ (h,q) (-1) HX.o.1 HX.o.2 ⟨ik.o.grow gd,EE _⟩ (.inl (by decide))).mono ?_;rintro e W6 ⟨v6,f6,rfl,-,aj,-,cK⟩;rw[Option.bind_some,←gF.o,←gT.o] at aj;obtain⟨s,cyc,U,bq⟩:=aj.core;have c9:W6.cell? ⟨bz,9,none⟩=some (.bool cyc):=U.fixed.2.2.2.2;have c7:W6.cell? ⟨bz,7,none⟩=some (.slice (some ⟨br,0,none⟩) L.length L.length):=U.hz.c 7;have cO:=Kz (ai.o.trans U.gr);have k0:(0:Int)≤(k:Int):=by omega
   have k1:(k:Int)<(L.length:Int):=by have:=cB.o;omega
   rcases bq with⟨J,rfl,aZ⟩|⟨J,rfl⟩
   ·obtain⟨ak,ck,fq,c8,hrow,dB⟩:=U.Et cB.o (aZ.len k)
    have T:=Kz (show readsOf g t (h,q)=l7 L (s.reads.getD k []) by
     rw[I.o,J];exact(if_neg (by omega)).trans (by rw[Int.toNat_natCast];rfl))
    have bg:=aZ.len k;obtain⟨kr,Z⟩:=nm (l7 L (s.reads.getD k []));have ku:=Kz (show kr.length≤2000 by rw[Z];unfold l7;rw[length_map];exact bg);clear bg;rw[←Z] at c8 hrow T;have fe:=Kz hrow;have ky:=Kz dB;clear aj U cK J aZ Z hrow dB q3 q4;go_wp2_with fail;go_ret;rw[T.o];exact⟨ku.o,_,fq,rfl,fe.o.gr gd,ky.o.of_le ai.o.size,cO.o.trans gd⟩
   ·have T:=Kz (show readsOf g t (h,q)=[] by rw[I.o,J])
    clear aj U cK J q3 q4;go_wp2_with fail;go_ret;rw[T.o];exact⟨by decide,_,[],rfl,⟨_,0,rfl,by simp,by simp,.inl ⟨rfl,rfl⟩⟩,aY.nil _,cO.o.trans gd⟩
 ·have HR:=Kz (show readsOf g t (h,q)=[] by unfold readsOf;rw[if_neg D])
  have lq:=Kz (show kT g t=false from eq_false_of_ne_true D);clear D;go_in;go_wp2_with fail;refine(Cg g t _ (Rd.gr HG.o gd) (Rd.gr HT.o gd) au.o lq.o).mono ?_;rintro e B ⟨rfl,gB⟩;have K:=Kz (Gr.trans gd gB:Gr w B);go_simp;go_wp2_with fail;go_ret;rw[HR.o];exact⟨by decide,_,[],rfl,⟨_,0,rfl,by simp,by simp,.inl ⟨rfl,rfl⟩⟩,aY.nil _,K.o.trans gd⟩
theorem Eo{t:List aT}(h:jI g):∀x∈bU g t,x.2.size≤8:=by
 intro x q
 unfold bU at q
 split at q
 ·obtain⟨n,-,q⟩:=List.mem_flatMap.1 q
  obtain⟨a,B,rfl⟩:=List.mem_map.1 q
  cases e:bW g.1 (leftOf g n) with
  |none=>
   rw[e] at B
   cases (show a∈([]:List aQ) from B)
  |some s=>
   rw[e] at B;exact((h.1.2.2.1.1 s (List.mem_of_find?_eq_some e)).2.2.1 a B).1.2.1
 ·cases q
theorem Ig{α:Type}(f:α→Nat)(xs:List α){K:Nat}(h:∀x∈xs,f x≤K):wtL f xs≤xs.length*(1+K):=by
 induction xs with
 |nil=>simp[wtL]
 |cons x xs q=>
  have h1:=q (fun y B=>h y (List.mem_cons_of_mem _ B));have D:=h x (by simp);simp only[wtL,List.map_cons,List.sum_cons,List.length_cons,Nat.add_mul,Nat.one_mul] at*;omega
theorem DD{t:List aT}{x:av}(h:(readsOf g t x).length≤2000):kP (readsOf g t x)≤1048576:=by
 have h1:∀y∈readsOf g t x,fM y≤8:=by
  intro y q
  unfold readsOf at q
  split at q
  ·rename_i hg
   have hgood:jI g:=dx.1 (by unfold kT at hg;simp at hg;exact hg.1)
   split at q
   ·cases q
   ·split at q
    ·cases q
    ·obtain⟨j,-,rfl⟩:=List.mem_map.1 q
     by_cases B:j<(bU g t).length
     ·rw[getD_at B]
      exact Eo hgood _ (List.getElem_mem B)
     ·rw[sw (by omega)]
      show(ByteArray.empty).size≤8
      decide
  ·cases q
 have D:=Ig fM (readsOf g t x) h1;unfold kP;omega
theorem C9{fx:List Nat}{ct cx:Array Value}(g:af d)(t:fU)(x:av)(w:World)(hg:Rd.rd fg w cg.toList g)(ht:Rd.rd ft w ct.toList t)(D:Rd.rd fx w cx.toList x)(I:aP g≤1048576)(h:gY t≤1048576):
  Calls Tryz.prog 10 #[.agg cg,.agg ct,.agg cx] w (p8 w (readsOf g t x)):=by
 have J:=hg;have K:=ht;obtain⟨g0,g1,ag0,kg0,U,ag1,kg1,V,rfl,rfl,-,X,-,-,Y,-,-⟩:=yt hg;obtain⟨t0,Z,ae,ah,rfl,rfl,-,ai,-,-⟩:=K8 ht;obtain⟨O,T,rfl,rfl,-,q,B⟩:=K7 D;exact D6 (g0,g1) t0 (O,T) w J K q B I (Nat.le_trans (bT fT t0) h) h
theorem uw{fx:List Nat}{ct cx:Array Value}(g:af d)(t:fU)(x:av)(w:World)(hg:Rd.rd fg w cg.toList g)(ht:Rd.rd ft w ct.toList t)(D:Rd.rd fx w cx.toList x)(I:aP g≤1048576)(h:gY t≤1048576):
  Calls Tryz.prog 14 #[.agg cg,.agg ct,.agg cx] w fun e w'=>(readsOf g t x).length≤2000∧p8 w (readsOf g t x) e w':=by
 have J:=hg;have K:=ht;obtain⟨g0,g1,ag0,kg0,U,ag1,kg1,V,rfl,rfl,-,X,-,-,Y,-,-⟩:=yt hg;obtain⟨t0,Z,ae,ah,rfl,rfl,-,ai,-,-⟩:=K8 ht;obtain⟨O,T,rfl,rfl,-,q,B⟩:=K7 D;exact KQ (g0,g1) t0 (O,T) w J K q B I h
end Go.Proofs.YtleafadpfeibfaaGreat
