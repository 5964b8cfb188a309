/- Contracts and laws behind those of ReadsOf, part 2. No condition. -/
import Derived.Deep.WholeRow
import Derived.Test.YtleafadpfeibfaaGreatRx48
import Derived.Test.YtleafadpfeibfaaGreatRx65
import Derived.Test.YtleafadpfeibfaaGreatRx49
set_option maxHeartbeats 32000000
set_option maxRecDepth 10000
set_option linter.unusedVariables false
set_option linter.unusedSimpArgs false
namespace Go.Proofs.YtleafadpfeibfaaGreat
open Go.RowKit
open _root_.List (length_map)
open _root_.Nat (le_refl)
variable{d:Nat}
variable{out nx:List Int}{m n i:Nat}{E W:World}{fg:List Nat}{g:af d}{r:Int}
def hOf(ss:List bC)(hs:List Int)(n:ByteArray):Int:=if atS ss n<0 then 0 else hs.getD (atS ss n).toNat 0
theorem GR(ss:List bC)(hs:List Int)(n:ByteArray):vK ss hs n=decide (0<hOf ss hs n):=by
 unfold vK hOf
 by_cases h:atS ss n<0
 ·rw[if_pos h,decide_eq_false (by omega:¬0≤atS ss n)];rfl
 ·rw[if_neg h,decide_eq_true (by omega:0≤atS ss n)];rfl
theorem Dn{cg:Array Value}(g:af d)(out:List Int)(name:ByteArray)(bg c b:Nat)(w:World)(hg:Rd.rd fg w cg.toList g)(vg:az w bg 39 cg.toList)(box:w.cell? ⟨c,0,none⟩=some (.slice (some ⟨b,0,none⟩) g.1.length g.1.length))(row:jZ w b 3 out)(len:out.length=g.1.length):
  Qz 180 #[.string name,.pointer (some ⟨bg,0,none⟩),.pointer (some ⟨c,0,none⟩)] w (.int .i64 (hOf g.1 out name)):=by
 obtain⟨g0,g1⟩:=g;obtain⟨gB,gD,gF,gT,rfl,ak,Y,bB⟩:=aB g0 g1 hg;clear ak;obtain⟨ag0,kg0,rfl,cB,cK,au⟩:=Y.open;obtain⟨ag1,kg1,rfl,cO,dB,dS⟩:=bB.open;clear hg;have Z:w.cell? ⟨bg,0,none⟩=some (.slice ag0 g0.length kg0):=vg.c 0;have bH:=blk Z;have ax:=Kz (show out.length=g0.length from len);have ay:=Kz row;have aZ:=Kz (show w.cell? ⟨c,0,none⟩=some (.slice (some ⟨b,0,none⟩) g0.length g0.length) from box);obtain⟨ae,I⟩:=nm (hOf g0 out name);have J:=Kz I
 show Calls _ _ _ _ fun e w'=>e=.returned (.int .i64 (hOf g0 out name))∧Gr w w'
 rw[←I];clear vg box row len I;(try delta Qz);go_in;go_wp2_with fail;clear Z bH
 go_loopw [10] (fun K wr=>∃k:Nat,k≤g0.length∧Ky (∀j (h:j<g0.length),j<k→decide (g0[j].1=name)=false)∧Ky (Gr w wr)∧K=.int .i64 k) (fun K _=>g0.length - (intOf K).toNat)
 case atStart=>exact⟨0,by omega,Kz (fun j h X=>by omega),Kz gd,rfl⟩
 case round=>
  obtain⟨k,hk,HT,B,rfl⟩:=hrel
  rename World=>W1
  by_cases O:k<g0.length
  ·have ah:=B.o
   obtain⟨b,off,rfl,gV⟩:=au k O;obtain⟨bL,gX,D,T,-⟩:=Y.at O;obtain⟨yq,U⟩:=nm (g0[k]);rw[←U] at T;have ai:=Kz U;obtain⟨q0,q1⟩:=yq;obtain⟨ik,kr,V,-,ku,bR⟩:=aV (cs:=bL.toArray) q0 q1 (by simpa using T);obtain rfl:=toL V;obtain⟨ky,lq,rfl,dV,fe,fu⟩:=bR.open;have bX:=ah.keep (show w.cell? ⟨b,off+k*2,none⟩=some (.string q0) from by simpa[Rd.n] using D 0 _ rfl);replace D:∀j v,_→w.cell? ⟨b,off+k*2+j,none⟩=some v:=D;have oH:=ah.keep (D 1 _ rfl);have oL:=blk bX;clear V D T U;have k0:(0:Int)≤(k:Int):=by omega
   have k1:(k:Int)<(g0.length:Int):=by omega
   have iw:=zI1 k (by omega);have aj:k<out.length:=by have:=ax.o;omega
   have zc:=B.o.keep aZ.o;have zo:=B.o.keep (ay.o.cell aj);have o5:=blk zc;have o9:=blk zo
   by_cases q:q0=name
   ·have HE:=Kz (show ae=out[k] by
     have h1:atS g0 name=k:=iH O (decide_eq_true (by rw[←ai.o];exact q)) HT.o;rw[J.o];unfold hOf;rw[h1,if_neg (by omega)];simp[List.getD_eq_getElem?_getD,List.getElem?_eq_getElem aj])
    subst q;go_wp2_with fail;go_ret;exact⟨aC HE.o.symm,B.o.trans gd⟩
   ·have E:=Kz q
    have e:(q0.toList==name.toList)=false:=by simpa using fun e=>q (str_inj e)
    clear q;go_wp2_with fail;refine⟨⟨k+1,by omega,Kz fun j X qb=>?_,Kz (tg B),by go_num⟩,by simp[intOf];omega⟩
    by_cases bq:j<k
    ·exact HT.o j X bq
    ·obtain rfl:j=k:=by omega
     rw[←ai.o];exact decide_eq_false E.o
  ·have HE:=Kz (show ae=0 by
    have h1:atS g0 name= -1:=gu (fun j X=>HT.o j X (by omega));rw[J.o];unfold hOf;rw[h1];rfl)
   go_wp2_with fail;go_ret;exact⟨aC HE.o.symm,B.o.trans gd⟩
structure HtS(w0:World)(cg:List Value)(bg c b n:Nat)(W:World)(out:List Int):Prop where
 gr:Gr w0 W
 vg:az W bg 39 cg
 box:az W c 54 [.slice (some ⟨b,0,none⟩) n n]
 row:jZ W b 3 out
 len:out.length=n
 ge:w0.heap.size≤c∧w0.heap.size≤b∧c≠b∧c≠bg∧b≠bg
theorem HtS.grow{w0 W':World}{cg:List Value}{q c b:Nat}(h:HtS w0 cg q c b n W out)(hg:Gr W W'):HtS w0 cg q c b n W' out:=
 ⟨h.gr.trans hg,h.vg.gr hg,h.box.gr hg,az.gr h.row hg,h.len,h.ge⟩
theorem HtS.set{w0:World}{cg:List Value}{B c b:Nat}(h:HtS w0 cg B c b n W out){q:Nat}(hb:w0.heap.size≤q∧q≠B∧q≠c∧q≠b)(o:Nat)(v:Value):HtS w0 cg B c b n (W.setCell ⟨q,o,none⟩ v) out:=
 ⟨Gr.setCell h.gr hb.1 v,h.vg.ne hb.2.1.symm,h.box.ne hb.2.2.1.symm,az.ne h.row hb.2.2.2.symm,h.len,h.ge⟩
def lu(g:af d)(out:List Int)(n:ByteArray)(r:Int)(i:Nat)(nx:List Int)(m:Nat):List Int:=if (g.2.take m).any (nU g.1 out n)=true then nx.set i r else nx
theorem Er{n:ByteArray}(h:m<g.2.length):lu g out n r i nx (m+1)=if nU g.1 out n g.2[m]=true then(lu g out n r i nx m).set i r else lu g out n r i nx m:=by
 unfold lu;rw[List.take_succ_eq_append_getElem h,List.any_append];simp only[List.any_cons,List.any_nil,Bool.or_false,Bool.or_eq_true]
 by_cases h1:(g.2.take m).any (nU g.1 out n)=true
 ·rw[if_pos (.inl h1),if_pos h1]
  split<;>simp
 ·rw[if_neg h1]
  by_cases q:nU g.1 out n g.2[m]=true
  ·rw[if_pos (.inr q),if_pos q]
  ·rw[if_neg (fun h=>h.elim h1 q),if_neg q]
theorem FR(g:af d)(out:List Int)(n:ByteArray)(r:Int)(i:Nat)(nx:List Int)(m:Nat):(lu g out n r i nx m).length=nx.length:=by
 unfold lu
 split<;>simp
theorem Fy(hi:i<g.1.length)(q:out.getD i 0=0):lu g out g.1[i].1 r i nx g.2.length=ry g out r nx i:=by
 unfold lu ry;rw[List.take_length]
 show(if mJ g out g.1[i].1=true then nx.set i r else nx)=_
 have B:g.1.getD i (⟨#[]⟩,[])=g.1[i]:=by simp[List.getD_eq_getElem?_getD,List.getElem?_eq_getElem hi]
 rw[B]
 by_cases h:mJ g out g.1[i].1=true
 ·rw[if_pos h,if_pos ⟨q,h⟩]
 ·rw[if_neg h,if_neg (fun k=>h k.2)]
theorem Eh(q:out.getD i 0≠0):ry g out r nx i=nx:=if_neg fun h=>q h.1
def Kr(g:af d)(w:World)(e:Ending)(w':World):Prop:=∃v fq,e=.returned v∧SlR fq w' v (hts g g.1.length)∧Gr w w'
theorem uG:JM d:=by
 intro fg cg g w hg hl hn ai
 obtain⟨i0,hi,vO,fe,vR⟩:=info_parts Tryz.kJ;have T:=fun(W:World)=>run_make (P:=Tryz.prog) W 54 3 i0 (.int .i64 0) Tryz.underlying54 hi vO .i64 .i64 g.1.length g.1.length (by omega) (by omega) (by rw[vR];omega) (by omega)
 have F6:=Kz (show(Tryz.prog.info? 3).map (·.size)=some 1 from by rw[hi];simp[fe]);rw[fe] at T;clear hi vO fe vR;simp only[Int.toNat_natCast,Nat.mul_one] at T;have bg:=Kz (fun W:World=>jZ.made W g.1.length 3);have vX:(Value.int .i64 0).cells=#[.int .i64 0]:=rfl;rw[vX] at T;generalize madeCells #[.int .i64 0] g.1.length=C1 at T bg;clear vX;have HG:=Kz hg;obtain⟨g0,g1⟩:=g;obtain⟨Ms,Mt,Mv,Mw,rfl,BM,wF,wL⟩:=aB g0 g1 hg;clear BM;obtain⟨ag0,kg0,rfl,L8,L9,EB⟩:=wF.open;obtain⟨ag1,kg1,rfl,Ma,Mc,E5⟩:=wL.open;clear hg;have Mx:0<g0.length:=hn;have Md:g0.length≤1000:=ai
 change Ky (∀W:World,jZ (W.alloc (.cells C1 3)) W.heap.size 3 (List.replicate g0.length 0)) at bg
 change ∀W:World,_=Result.ok (Value.slice _ g0.length g0.length) _ at T
 clear hn ai hl;have F8:=Kz (show Rd.rd fg w (Array.toList #[.slice ag0 g0.length kg0,.slice ag1 g1.length kg1]) (g0,g1) from HG.o);obtain⟨GC,aj⟩:∃GC:List Value,GC=[.slice ag0 g0.length kg0,.slice ag1 g1.length kg1]:=⟨_,rfl⟩;have w9:=Kz (fun(W:World) (h:az W w.heap.size 39 GC)=>show W.cell? ⟨w.heap.size,0,none⟩=some (.slice ag0 g0.length kg0) by rw[aj] at h;exact h.c 0);have Ha:=Kz (fun(W:World) (h:az W w.heap.size 39 GC)=>show W.cell? ⟨w.heap.size,1,none⟩=some (.slice ag1 g1.length kg1) by rw[aj] at h;exact h.c 1);have He:=Kz (fun(W:World) (h:az W w.heap.size 39 GC)=>show az W w.heap.size 39 (Array.toList #[.slice ag0 g0.length kg0,.slice ag1 g1.length kg1]) by rw[aj] at h;exact h)
 show Calls _ _ _ _ (Kr (g0,g1) w)
 go_in;go_wp2_with fail;obtain⟨B,hB⟩:=nm (((w.alloc (.cells #[.slice ag0 g0.length kg0,.slice ag1 g1.length kg1] 39)).alloc (.cells C1 3)).alloc (.cells #[.slice (some ⟨w.heap.size+1,0,none⟩) g0.length g0.length] 54));rw[←hB]
 have xc:HtS w GC w.heap.size (w.heap.size+1+1) (w.heap.size+1) g0.length B (hts (g0,g1) 0):=by
  rw[hB,aj];refine⟨gd,(az.new (A:=w) rfl).gr gd,az.new (by simp),?_,by simp[hts],by omega,by omega,by omega,by omega,by omega⟩;have h:=bg.o (w.alloc (.cells #[.slice ag0 g0.length kg0,.slice ag1 g1.length kg1] 39));rw[show(w.alloc (.cells #[.slice ag0 g0.length kg0,.slice ag1 g1.length kg1] 39)).heap.size=w.heap.size+1 by simp] at h;exact az.gr h gd
 have HY:=Kz xc;have HZ:=Kz T;clear hB xc T aj
 go_loopw [5] (fun s5 wr=>∃(k Z:Nat),k≤g0.length∧Ky (HtS w GC w.heap.size (w.heap.size+1+1) Z g0.length wr (hts (g0,g1) k))∧s5=.int .i64 ((k:Int)+1)) (fun s5 _=>g0.length+1 - (intOf s5).toNat)
 case atStart=>exact⟨0,w.heap.size+1,by omega,HY,rfl⟩
 case round=>
  obtain⟨k,Z,hk,D,rfl⟩:=hrel
  rename World=>J
  have y0:J.cell? ⟨w.heap.size,0,none⟩=some (.slice ag0 g0.length kg0):=w9.o _ D.o.vg;have yc:=D.o.box.box;have fu:=blk y0;have gB:=blk yc;have yu:=Ay (g0,g1) k hk;have gD:∀y∈hts (g0,g1) k,0≤y∧y≤(g0.length:Int):=yu.2;obtain⟨q,ax⟩:=nm (hts (g0,g1) k);rw[←ax] at D gD;have gF:=Kz ax;have gT:=Kz gD;have Me:=D.o.ge;have FX:=D.o.row.lt;have U:=Kz D.o.len;clear yu ax gD
  by_cases V:k<g0.length
  ·have H5:(k:Int)+1≤(g0.length:Int):=by omega
   have MB:IntKind.i64.wrap ((k:Int)+1+1)=(k:Int)+1+1:=IntWalk.i64_in _ (by omega);have T:=HZ.o
   have ay:C1.size=g0.length:=by
    have h:=bg.o J;have h2:(J.alloc (.cells C1 3)).heap[J.heap.size]?=_:=h;rw[heap_alloc_new] at h2;injection h2 with h2;injection h2 with h2;rw[h2];simp
   have IV:(Builtin.copy_ #[54,54] 3 #[.slice (some ⟨J.heap.size,0,none⟩) g0.length g0.length,.slice (some ⟨Z,0,none⟩) g0.length g0.length]).run Tryz.prog (J.alloc (.cells C1 3))=.ok (goInt g0.length) (J.alloc (.cells (q.map (Value.int .i64)).toArray 3)):=by
    have h:=run_copy_row (P:=Tryz.prog) (J.alloc (.cells C1 3)) 54 54 3 3 J.heap.size 0 g0.length g0.length ⟨Z,0,none⟩ g0.length g0.length C1 3 (q.map (Value.int .i64)) Tryz.underlying54 F6.o (heap_alloc_new J _) (by rw[length_map,U.o];exact(Nat.min_self _).symm) (fun j v hj=>by
     obtain⟨KX,rfl⟩:=List.getElem?_eq_some_iff.1 hj;have h3:=(az.gr D.o.row (gd:Gr J (J.alloc (.cells C1 3)))).cell KX;have F4:(⟨Z,0,none⟩:Addr).add j=⟨Z,j,none⟩:=by unfold Addr.add;split<;>simp_all
     rw[F4];simpa using h3) (by rw[length_map,U.o,ay];omega) (fun v hv=>by
     obtain⟨y,-,rfl⟩:=List.mem_map.1 hv;rfl)
    rw[World.setRow_alloc_new] at h
    have e:(C1.toList.take 0++q.map (Value.int .i64)++C1.toList.drop (0+(q.map (Value.int .i64)).length)).toArray=(q.map (Value.int .i64)).toArray:=by
     rw[length_map,U.o,Nat.zero_add,List.drop_eq_nil_of_le (by rw[Array.length_toList,ay];exact le_refl _)];simp
    rw[e,length_map,U.o] at h;exact h
   go_wp2_with fail;clear IV T;obtain⟨W2,bq⟩:=nm (J.alloc (.cells (q.map (Value.int .i64)).toArray 3));rw[←bq];have y5:=D.o.grow (show Gr J W2 by rw[bq];exact gd);have ae:jZ W2 J.heap.size 3 q:=by rw[bq];exact az.new rfl
   obtain⟨b2,gV⟩:=nm (J.heap.size)
   have ai:w.heap.size≤b2∧b2≠w.heap.size∧b2≠w.heap.size+1+1∧b2≠Z:=by
    have h1:=D.o.gr.size;have h2:=D.o.box.lt;have h3:=D.o.vg.lt;rw[gV];omega
   rw[←gV] at ae ⊢;have y7:=Kz y5;have bB:=Kz ae;have y8:=Kz ai;clear bq y5 ae gV ai y0 yc fu gB D FX ay;clear J
   go_loopw [35] (fun gX wr=>∃i:Nat,i≤g0.length∧Ky (HtS w GC w.heap.size (w.heap.size+1+1) Z g0.length wr q)∧Ky (jZ wr b2 3 (mP (g0,g1) q ((k:Int)+1) i))∧gX=.int .i64 i) (fun gX _=>g0.length - (intOf gX).toNat)
   case atStart=>exact⟨0,by omega,y7,bB,rfl⟩
   case round=>
    clear y7 bB;obtain⟨i,hi,I,ak,rfl⟩:=hrel
    rename World=>W3
    have y0:W3.cell? ⟨w.heap.size,0,none⟩=some (.slice ag0 g0.length kg0):=w9.o _ I.o.vg;have y1:W3.cell? ⟨w.heap.size,1,none⟩=some (.slice ag1 g1.length kg1):=Ha.o _ I.o.vg;have yc:=I.o.box.box;have fu:=blk y0;have gB:=blk yc;have ik:=Kz (show(mP (g0,g1) q ((k:Int)+1) i).length=g0.length by rw[(Bf (g:=(g0,g1)) (out:=q) (r:=(k:Int)+1) (M:=(g0.length:Int)) (by omega) gT.o i).1,U.o])
    by_cases V:i<g0.length
    ·have K:=I.o.gr
     have bH:i<q.length:=by rw[U.o];exact V
     have zo:=I.o.row.cell bH;have K3:=blk zo;have MC:(0:Int)≤(i:Int):=by omega
     have ME:(i:Int)<(g0.length:Int):=by omega
     have MF:=zI1 i (by omega);obtain⟨b,off,rfl,K4⟩:=EB i V;obtain⟨K6,MG,au,iw,-⟩:=wF.at V;obtain⟨yq,kr⟩:=nm (g0[i]);rw[←kr] at iw;have La:=Kz kr;obtain⟨q0,q1⟩:=yq;obtain⟨MH,MI,ku,-,MJ,Li⟩:=aV (cs:=K6.toArray) q0 q1 (by simpa using iw);obtain rfl:=toL ku;obtain⟨bR,bX,rfl,Mf,Mg,Mh⟩:=Li.open;have y9:=K.keep (show w.cell? ⟨b,off+i*2,none⟩=some (.string q0) from by simpa[Rd.n] using au 0 _ rfl);replace au:∀j v,_→w.cell? ⟨b,off+i*2+j,none⟩=some v:=au;have Lj:=K.keep (au 1 _ rfl);have Lm:=blk y9;clear ku au iw kr;have Ls:=gT.o _ (List.getElem_mem bH);obtain⟨oi,ky⟩:=nm (q[i]);rw[←ky] at zo Ls;have za:=Kz (show q.getD i 0=oi by rw[ky];simp[List.getD_eq_getElem?_getD,List.getElem?_eq_getElem bH]);have lq:=Kz (tL (g0,g1) q ((k:Int)+1) i);clear ky bH
     by_cases h0:0<oi
     ·have cB:=Kz (lq.o.trans (Eh (by rw[za.o];omega)))
      go_wp2_with fail;exact⟨⟨i+1,by omega,Kz (I.o.grow gd),Kz (by rw[cB.o];exact az.gr ak.o gd),by go_num⟩,by simp[intOf];omega⟩
     ·have cB:=Kz (show lu (g0,g1) q q0 ((k:Int)+1) i (mP (g0,g1) q ((k:Int)+1) i) g1.length=mP (g0,g1) q ((k:Int)+1) (i+1) from by
       rw[lq.o,←Fy (g:=(g0,g1)) V (by rw[za.o];omega)]
       show lu (g0,g1) q q0 _ i _ g1.length=lu (g0,g1) q g0[i].1 _ i _ g1.length
       rw[←La.o])
      go_wp2_with fail;obtain⟨W4,cK⟩:=nm (W3.alloc (.cells #[.string q0,.slice bR q1.length bX] 123));rw[←cK];have g4:Gr W3 W4:=by rw[cK];exact gd
      have oH:az W4 W3.heap.size 123 [.string q0,.slice bR q1.length bX]:=by rw[cK];exact az.new rfl
      have aZ:W3.heap.size≠b2:=by have:=ak.o.lt;omega
      obtain⟨bs,zb⟩:=nm (W3.heap.size);rw[←zb] at oH aZ ⊢;have ze:=Kz (I.o.grow g4);have o5:=Kz (show jZ W4 b2 3 (lu (g0,g1) q q0 ((k:Int)+1) i (mP (g0,g1) q ((k:Int)+1) i) 0) from az.gr ak.o g4);have zf:=Kz oH;have Lv:=Kz aZ;obtain⟨NX,zg⟩:=nm (mP (g0,g1) q ((k:Int)+1) i);rw[←zg] at o5 cB ik;clear cK g4 oH aZ zb zg I ak lq y0 y1 yc fu gB zo K3 y9 Lj Lm K;clear W3
      go_loopw [48] (fun o9 wr=>∃m:Nat,m≤g1.length∧Ky (HtS w GC w.heap.size (w.heap.size+1+1) Z g0.length wr q)∧Ky (jZ wr b2 3 (lu (g0,g1) q q0 ((k:Int)+1) i NX m))∧Ky (az wr bs 123 [.string q0,.slice bR q1.length bX])∧o9=.int .i64 m) (fun o9 _=>g1.length - (intOf o9).toNat)
      case atStart=>exact⟨0,by omega,ze,o5,zf,rfl⟩
      case round=>
       clear ze o5 zf;obtain⟨m,hm,cO,qb,q8,rfl⟩:=hrel
       rename World=>W5
       have Lx:=Kz (show(lu (g0,g1) q q0 ((k:Int)+1) i NX m).length=g0.length by rw[FR,ik.o])
       by_cases V:m<g1.length
       ·have K:=cO.o.gr
        have zl:=Kz (Er (g:=(g0,g1)) (out:=q) (n:=q0) (r:=(k:Int)+1) (i:=i) (nx:=NX) (m:=m) V);obtain⟨b,off,rfl,K4⟩:=E5 m V;obtain⟨LA,MK,X,q9,-⟩:=wL.at V;obtain⟨yr,sO⟩:=nm (g1[m]);rw[←sO] at q9;have LB:=Kz sO;obtain⟨r0,r1,Y,r3,r4,r5⟩:=yr;obtain⟨ML,MM,MN,MO,MP,MQ,uf,-,MR,MS,ae,LC,LD⟩:=aM (cs:=LA.toArray) r0 r1 Y r3 r4 r5 (by simpa using q9);obtain rfl:=toL uf;obtain⟨LF,LG,rfl,Mi,Mj,F5⟩:=ae.open;obtain⟨LH,LJ,rfl,Mk,Ml,Mm⟩:=LC.open;obtain⟨LK,LM,rfl,Mo,Mq,Mr⟩:=LD.open;have zq:=K.keep (show w.cell? ⟨b,off+m*6,none⟩=some (.string r0) from by simpa[Rd.n] using X 0 _ rfl);replace X:∀j v,_→w.cell? ⟨b,off+m*6+j,none⟩=some v:=X;have LP:=K.keep (X 1 _ rfl);have LQ:=K.keep (X 2 _ rfl);have LU:=K.keep (X 3 _ rfl);have LV:=K.keep (X 4 _ rfl);have LW:=K.keep (X 5 _ rfl);have LX:=blk zq;clear uf X q9 sO;have m0:(0:Int)≤(m:Int):=by omega
        have m1:(m:Int)<(g1.length:Int):=by omega
        have MU:=zI1 m (by omega);have zu:W5.cell? ⟨bs,0,none⟩=some (.string q0):=q8.o.c 0;have LY:=blk zu;have bB:=Kz ae;have zx:Ky (nU g0 q q0 g1[m]=(decide (r1=q0)&&Y.all (vK g0 q))):=Kz (by rw[←LB.o];rfl);go_wp2_with fail
        have uo:(r1.toList==q0.toList)=decide (r1=q0):=by
         by_cases h:r1=q0
         ·subst h;simp
         ·rw[decide_eq_false h];simpa using fun e=>h (str_inj e)
        rw[uo];obtain⟨W6,uq⟩:=nm (W5.alloc (.cells #[.string r0,.string r1,.slice LF Y.length LG,.bool r3,.slice LH r4.length LJ,.slice LK r5.length LM] 128));rw[←uq];have g6:Gr W5 W6:=by rw[uq];exact gd
        have zy:=Kz (cO.o.grow g6);have zH:=Kz (show jZ W6 b2 3 (lu (g0,g1) q q0 ((k:Int)+1) i NX m) from az.gr qb.o g6);have zO:=Kz (q8.o.gr g6);obtain⟨uz,ve⟩:=nm (decide (r1=q0));rw[←ve] at zx ⊢;clear uq g6 cO qb q8 K zq LP LQ LU LV LW LX zu LY uo ve
        go_loopw [60,11] (fun vB LZ wr=>∃(p:Nat) (gb:Bool),p≤Y.length∧Ky (HtS w GC w.heap.size (w.heap.size+1+1) Z g0.length wr q)∧Ky (jZ wr b2 3 (lu (g0,g1) q q0 ((k:Int)+1) i NX m))∧Ky (az wr bs 123 [.string q0,.slice bR q1.length bX])∧Ky (gb=(uz&&(Y.take p).all (vK g0 q)))∧vB=.int .i64 p∧LZ=.bool gb) (fun vB _ _=>Y.length - (intOf vB).toNat)
        case atStart=>exact⟨0,uz,by omega,zy,zH,zO,Kz (by simp),rfl,rfl⟩
        case round=>
         clear zy zH zO;obtain⟨p,gb,hp,O,ah,dB,dS,rfl,rfl⟩:=hrel
         rename World=>W7
         by_cases vD:p<Y.length
         ·obtain⟨bL,oL,rfl,MV⟩:=F5 p vD
          have cL:=O.o.gr.keep (bB.o.jl vD).1;have zL:=blk cL;have p0:(0:Int)≤(p:Int):=by omega
          have p1:(p:Int)<(Y.length:Int):=by omega
          have MW:=zI1 p (by omega)
          have vF:=Kz (show(uz&&(Y.take (p+1)).all (vK g0 q))=(gb&&decide (0<hOf g0 q Y[p])) by
           rw[List.take_succ_eq_append_getElem vD,List.all_append,dS.o];simp[GR,Bool.and_assoc])
          cases gb with
          |false=>
           go_wp2_with fail;exact⟨⟨p+1,false,by omega,Kz (O.o.grow gd),Kz (az.gr ah.o gd),Kz (dB.o.gr gd),Kz (by rw[vF.o];rfl),by go_num,rfl⟩,by simp[intOf];omega⟩
          |true=>
           obtain⟨HV,vG⟩:=nm (hOf g0 q Y[p]);rw[←vG] at vF;have L6:=Kz vG;clear vG;go_wp2_with fail;refine(Dn (g0,g1) q Y[p] w.heap.size (w.heap.size+1+1) Z _ (Rd.gr F8.o (O.o.gr.trans gd)) ((He.o _ O.o.vg).gr gd) ((gd:Gr W7 _).keep O.o.box.box) (az.gr O.o.row gd) O.o.len).mono ?_;rw[show hOf ((g0,g1):af d).1 q Y[p]=HV from L6.o.symm];rintro e w' ⟨rfl,x9,rfl⟩;go_wp2_with fail;exact⟨⟨p+1,decide (0<HV),by omega,Kz (O.o.grow gd),Kz (az.gr ah.o gd),Kz (dB.o.gr gd),Kz (by rw[vF.o];rfl),by go_num,rfl⟩,by simp[intOf];omega⟩
         ·obtain rfl:p=Y.length:=by omega
          rw[List.take_length,←zx.o] at dS;have zn:=ah.o.cell (k:=i) (by rw[Lx.o];omega);have fn:=az.frozen ah.o i;have MX:=blk zn
          cases gb with
          |false=>
           have vL:=Kz (zl.o.trans (if_neg (fun h=>by rw[show nU g0 q q0 g1[m]=false from dS.o.symm] at h;cases h)));go_wp2_with fail;exact⟨⟨m+1,by omega,Kz (O.o.grow gd),Kz (by rw[vL.o];exact az.gr ah.o gd),Kz (dB.o.gr gd),by go_num⟩,by simp[intOf];omega⟩
          |true=>
           have vL:=Kz (zl.o.trans (if_pos (show nU g0 q q0 g1[m]=true from dS.o.symm)));go_wp2_with fail;exact⟨⟨m+1,by omega,Kz (O.o.set (by have:=y8.o;omega) _ _),Kz (by rw[vL.o];exact ah.o.set i ((k:Int)+1)),Kz (dB.o.ne Lv.o),by go_num⟩,by simp[intOf];omega⟩
       ·obtain rfl:m=g1.length:=by omega
        go_wp2_with fail;exact⟨⟨i+1,by omega,Kz (cO.o.grow gd),Kz (by rw[←cB.o];exact az.gr qb.o gd),by go_num⟩,by simp[intOf];omega⟩
    ·obtain rfl:i=g0.length:=by omega
     have z8:=Kz (show hts (g0,g1) (k+1)=mP (g0,g1) q ((k:Int)+1) g0.length by rw[wD,←gF.o]);have fc:=I.o.box.frozen 0;go_wp2_with fail;refine⟨⟨k+1,b2,by omega,Kz ?_,by go_num⟩,by simp[intOf];omega⟩;have hn:=y8.o;have dV:=I.o.ge;refine⟨Gr.setCell I.o.gr dV.1 _,I.o.vg.ne dV.2.2.2.1.symm,?_,?_,by rw[z8.o];exact ik.o,dV.1,hn.1,hn.2.2.1.symm,dV.2.2.2.1,hn.2.1⟩
     ·have:=I.o.box.set 0 (.slice (some ⟨b2,0,none⟩) g0.length g0.length)
      exact this
     ·rw[z8.o]
      exact az.ne ak.o hn.2.2.1
  ·obtain rfl:k=g0.length:=by omega
   have H5:¬((g0.length:Int)+1≤(g0.length:Int)):=by omega
   go_wp2_with fail;go_ret;obtain⟨fo,A7,-⟩:=lF.slR (rest:=[]) (w:=J) (b:=Z) (xs:=q) (by unfold lF;rw[List.append_nil];exact D.o.row) (fun y hy=>by have:=gT.o y hy;omega) (by rw[U.o];omega) (cap:=g0.length) (by rw[U.o];exact le_refl _);rw[U.o] at A7;exact⟨_,fo,rfl,by rw[←gF.o];exact A7.gr gd,D.o.gr.trans gd⟩
theorem Tryz.Ee:(Tryz.prog.info? 4).map (fun i=>(i.zero,i.size,i.bytes))=some (some (.bool false),1,1):=by kernel_rfl
theorem Tryz.Ev:(Tryz.prog.info? 34).map (fun i=>(i.zero,i.size,i.bytes))=some (some (.slice none 0 0),1,24):=by kernel_rfl
theorem Ja{w1:World}{v0 v1 v2 v3:Value}{L:List av}{bz bv bk bs br:Nat}{B D q:Array Value}(hn:n≤64)(I:B.toList=List.replicate n (.int .i64 0))(J:D.toList=List.replicate n (.slice none 0 0))(K:q.toList=List.replicate n (.bool false))(hg:Gr w1 W)
  (hz:az W bz 85 [v0,v1,v2,v3,.slice (some ⟨bv,0,none⟩) n n,.slice (some ⟨bk,0,none⟩) n n,.slice (some ⟨bs,0,none⟩) n n,.slice (some ⟨br,0,none⟩) n n,.int .i64 0,.bool false])
  (hv:W.heap[bv]?=some (.cells B 3)) (hk:W.heap[bk]?=some (.cells q 4)) (hs:W.heap[bs]?=some (.cells q 4)) (hr:W.heap[br]?=some (.cells D 34))
  (O:[bz,bv,bk,bs,br].Nodup) (h:w1.heap.size≤bz∧w1.heap.size≤bv∧w1.heap.size≤bk∧w1.heap.size≤bs∧w1.heap.size≤br):ImC w1 v0 v1 v2 v3 L n bz bv bk bs br [bz,bv,bk,bs,br] (Eng.new n) false W:=by
 have Y:B=((List.replicate n (0:Int)).map (Value.int .i64)).toArray:=Array.toList_inj.1 (by simp[I]);have T:q=(List.replicate n (Value.bool false)).toArray:=Array.toList_inj.1 (by simp[K]);have Z:br<W.heap.size:=(Array.getElem?_eq_some_iff.1 hr).1;obtain⟨A,U⟩:∃A:World,A.heap.size=br:=⟨{W with heap:=W.heap.extract 0 br},by simp;omega⟩;have hm:=bE.Jv (w0:=w1) (w:=A) 34 (by omega) n (gm.mk w1.heap.size 45 []) (by rfl) (fun W=>gm.GG _ _ W) J (by unfold maxLen;omega);rw[U] at hm
 have V:bE (α:=gm w1.heap.size 45) w1 34 W (.slice (some ⟨br,0,none⟩) n n) (List.replicate n []) (List.replicate n (gm.mk w1.heap.size 45 [])):=hm.same (fun b hb=>by simp at hb) (fun b hb=>by
  obtain rfl:=ownB hb;rw[hr];exact(gH U.symm).symm)
 refine⟨hg,hz,?_,?_,?_,⟨List.replicate n [],?_,by simp,by simp,by simp⟩,O,?_,by simp[Eng.new],by simp[Eng.new],by simp[Eng.new],?_⟩
 ·unfold jZ az
  rw[hv,Y];rfl
 ·unfold az
  rw[hk,T];simp[Eng.new]
 ·unfold az
  rw[hs,T];simp[Eng.new]
 ·simpa[Eng.new,l7] using V
 ·intro b hb
  simp at hb;rcases hb with rfl|rfl|rfl|rfl|rfl
  ·exact h.1
  ·exact h.2.1
  ·exact h.2.2.1
  ·exact h.2.2.2.1
  ·exact h.2.2.2.2
 ·intro x X
  simp[Eng.new] at X;rw[X.2]
  decide
theorem heap_drew{A:World}:A.drew.heap[n]?=A.heap[n]?:=rfl
theorem wm{q B D I:Obj}(h:E.heap.size=m):((((E.alloc q).alloc B).alloc D).alloc I).drew.heap[m]?=some q:=by
 subst h;rw[heap_drew];exact(dU (by simp<;>omega)).trans ((dU (by simp<;>omega)).trans ((dU (by simp<;>omega)).trans (gH rfl)))
theorem vV{B q D I:Obj}(h:E.heap.size=m):((((E.alloc B).alloc q).alloc D).alloc I).drew.heap[m+1]?=some q:=by
 subst h;rw[heap_drew];exact(dU (by simp<;>omega)).trans ((dU (by simp<;>omega)).trans (gH (by simp)))
theorem wz{B D q I:Obj}(h:E.heap.size=m):((((E.alloc B).alloc D).alloc q).alloc I).drew.heap[m+1+1]?=some q:=by
 subst h;rw[heap_drew];exact(dU (by simp<;>omega)).trans (gH (by simp))
theorem vW{B D I q:Obj}(h:E.heap.size=m):((((E.alloc B).alloc D).alloc I).alloc q).drew.heap[m+1+1+1]?=some q:=by
 subst h;rw[heap_drew];exact gH (by simp)
def Kw(w:World)(g:af d)(t:List aT)(ag0:Option Addr)(kg0:Nat)(ag1:Option Addr)(kg1:Nat)(at_:Option Addr)(kt:Nat)(e:Ending)(w':World):Prop:=
 ∃(w1:World) (aL:Option Addr) (kL bz bv bk bs br:Nat) (fp:List Nat),e=.returned (.tuple #[.pointer (some ⟨bz,0,none⟩),.bool true])∧Gr w w1∧(∃fl,SlR fl w1 (.slice aL (bU g t).length kL) (bU g t)∧aY w fl)∧
  ImC w1 (.slice ag0 g.1.length kg0) (.slice ag1 g.2.length kg1) (.slice at_ t.length kt) (.slice aL (bU g t).length kL) (bU g t) (bU g t).length bz bv bk bs br fp (Eng.new (bU g t).length) false w'
theorem AU{ft:List Nat}(g:af d)(t:List aT){ag0:Option Addr}{kg0:Nat}{ag1:Option Addr}{kg1:Nat}{at_:Option Addr}{kt:Nat}(w:World)(hg:Rd.rd fg w [.slice ag0 g.1.length kg0,.slice ag1 g.2.length kg1] g)(ht:Rd.rd ft w [.slice at_ t.length kt] t)(hl:aP g≤1048576)(hgood:jI g)(ai:fP g t=true):
  Calls Tryz.prog 42 #[.agg #[.slice ag0 g.1.length kg0,.slice ag1 g.2.length kg1],.agg #[.slice at_ t.length kt]] w (Kw w g t ag0 kg0 ag1 kg1 at_ kt):=by
 have hn:=jX hgood ai;have HG:=Kz hg;have HT:=Kz ht;have au:=Kz hl;have aj:=Kz hgood;have fe:=Kz ai;obtain⟨L,hL⟩:=nm (bU g t);have HL:=Kz hL;rw[←hL] at hn;have HN:=Kz hn;obtain⟨i0,hi,ax,ay,aZ⟩:=info_parts Tryz.kJ;have Y:=fun(W:World)=>run_make (P:=Tryz.prog) W 54 3 i0 (.int .i64 0) Tryz.underlying54 hi ax .i64 .i64 L.length L.length (by omega) (by omega) (by rw[aZ];omega) (by omega)
 rw[ay] at Y;obtain⟨i1,gi,bg,bq,bB⟩:=info_parts Tryz.Ev;have Z:=fun(W:World)=>run_make (P:=Tryz.prog) W 83 34 i1 (.slice none 0 0) Tryz.underlying83 gi bg .i64 .i64 L.length L.length (by omega) (by omega) (by rw[bB];omega) (by omega)
 rw[bq] at Z;obtain⟨i2,fi,bH,bL,bR⟩:=info_parts Tryz.Ee;have ae:=fun(W:World)=>run_make (P:=Tryz.prog) W 55 4 i2 (.bool false) Tryz.underlying55 fi bH .i64 .i64 L.length L.length (by omega) (by omega) (by rw[bR];omega) (by omega)
 rw[bL] at ae;clear hi ax ay aZ gi bg bq bB fi bH bL bR;simp only[Int.toNat_natCast,Nat.mul_one] at Y Z ae;have bX:(Value.int .i64 0).cells=#[.int .i64 0]:=rfl;have cB:(Value.slice none 0 0).cells=#[.slice none 0 0]:=rfl;have cK:(Value.bool false).cells=#[.bool false]:=rfl;rw[bX] at Y;rw[cB] at Z;rw[cK] at ae;have cO:=Kz (show(madeCells #[.slice none 0 0] L.length).toList=List.replicate L.length (.slice none 0 0) by rw[toList_madeCells_one]);have dB:=Kz (show(madeCells #[.int .i64 0] L.length).toList=List.replicate L.length (.int .i64 0) by rw[toList_madeCells_one]);have dS:=Kz (show(madeCells #[.bool false] L.length).toList=List.replicate L.length (.bool false) by rw[toList_madeCells_one]);generalize madeCells #[.int .i64 0] L.length=C1 at Y dB;generalize madeCells #[.slice none 0 0] L.length=C2 at Z cO;generalize madeCells #[.bool false] L.length=C3 at ae dS;clear bX cB cK;clear hg ht hl hgood ai hL hn;go_in;go_wp2_with fail;obtain⟨B,hB⟩:=nm ((w.alloc (.cells #[.slice ag0 g.1.length kg0,.slice ag1 g.2.length kg1] 39)).alloc (.cells #[.slice at_ t.length kt] 43));rw[←hB];have gB:Gr w B:=by rw[hB];exact gd
 have I:=Kz gB;have VG:=Kz (show az B w.heap.size 39 [.slice ag0 g.1.length kg0,.slice ag1 g.2.length kg1] by rw[hB];exact(az.new rfl).gr gd);have VT:=Kz (show az B (w.heap.size+1) 43 [.slice at_ t.length kt] by rw[hB];exact az.new (by simp));obtain⟨d0,d1⟩:=VG.o.c2;have d2:B.cell? ⟨w.heap.size+1,0,none⟩=some (.slice at_ t.length kt):=VT.o.c 0;have k0:=fun(w':World) (h:Gr B w')=>(⟨h.keep d0,h.keep d1,h.keep d2⟩:_∧_∧_)
 clear hB gB;refine(uu xG uG g _ (Rd.gr HG.o I.o) au.o).mono ?_;rw[bQ aj.o];rintro e D1 ⟨rfl,g1⟩;go_simp;go_wp2_with fail;refine(nG g t _ (Rd.gr HG.o (I.o.trans g1)) (Rd.gr HT.o (I.o.trans g1))).mono ?_;rw[fe.o];rintro e D2 ⟨rfl,g2⟩;have J:=g1.trans g2;clear g1 g2;go_simp;go_wp2_with fail;refine wp_region_held_drew (S:=(fun w'=>Gr B w')) (by kernel_rfl) (J.trans (gd:Gr D2 D2.drew)) (fun ak=>?_);refine aK 0 17 ?_;refine aK 1 18 ?_;refine aK 2 19 ?_;refine aK 3 20 ?_;refine gy [4] ?_;refine AllReadyH.cons rfl (fun K hK=>?_) AllReadyH.nil;go_simp
 go_at_call 56
 refine(yB g t _ (Rd.gr HG.o (I.o.trans (J.trans gd))) (Rd.gr HT.o (I.o.trans (J.trans gd))) au.o).mono ?_;rintro e w1 ⟨v,fq,rfl,hs,dV,g1⟩;rw[←HL.o] at hs;obtain⟨aL,kL,rfl,-,-,-⟩:=hs.open;have HS:=Kz hs;have fu:=Kz (dV.of_le (Gr.size (I.o.trans (J.trans gd))));have ah:Gr B w1:=J.trans (Gr.trans gd g1);clear hs dV g1;refine hK.out _ _ ah (fun gF=>?_);clear hK K
 try simp only[Act.put,uq1,uq2,uq3]
 refine aK 5 22 ?_
 refine gy [6] ?_
 refine AllReadyH.cons rfl (fun K hK=>?_) AllReadyH.nil
 go_simp;refine hK.out _ _ (ah.trans gd) (fun gT=>?_);clear hK K
 try simp only[Act.put,uq1,uq2,uq3]
 refine aK 7 6 ?_
 refine wpAnyH_done (by kernel_rfl) ?_ _
 skip;obtain⟨D,hD⟩:=nm (w1.alloc (.cells #[.slice ag0 g.1.length kg0,.slice ag1 g.2.length kg1,.slice at_ t.length kt,.slice aL L.length kL,.slice none 0 0,.slice none 0 0,.slice none 0 0,.slice none 0 0,.int .i64 0,.bool false] 85));have gD:Gr w1 D:=by rw[hD];exact gd
 have O:=Kz (show az D w1.heap.size 85 [.slice ag0 g.1.length kg0,.slice ag1 g.2.length kg1,.slice at_ t.length kt,.slice aL L.length kL,.slice none 0 0,.slice none 0 0,.slice none 0 0,.slice none 0 0,.int .i64 0,.bool false] by rw[hD];exact az.new rfl);have gV:=Kz gD;have gX:=Kz (I.o.trans ah);rw[←hD];have c3:D.cell? ⟨w1.heap.size,3,none⟩=some (.slice aL L.length kL):=O.o.c 3;have zc:=blk c3;clear hD gD k0 d0 d1 d2 ah J gF gT ak;go_wp2_with fail;have c4:D.cell? ⟨w1.heap.size,4,none⟩=some (.slice none 0 0):=O.o.c 4;have c5:D.cell? ⟨w1.heap.size,5,none⟩=some (.slice none 0 0):=O.o.c 5;have c6:D.cell? ⟨w1.heap.size,6,none⟩=some (.slice none 0 0):=O.o.c 6;have c7:D.cell? ⟨w1.heap.size,7,none⟩=some (.slice none 0 0):=O.o.c 7;have f4:=O.o.frozen;have ik:=Kz (fun(T U V X:Value)=>show az ((((D.setCell ⟨w1.heap.size,4,none⟩ T).setCell ⟨w1.heap.size,5,none⟩ U).setCell ⟨w1.heap.size,6,none⟩ V).setCell ⟨w1.heap.size,7,none⟩ X) w1.heap.size 85 [.slice ag0 g.1.length kg0,.slice ag1 g.2.length kg1,.slice at_ t.length kt,.slice aL L.length kL,T,U,V,X,.int .i64 0,.bool false] from(((O.o.set 4 T).set 5 U).set 6 V).set 7 X);have iw:=Kz (fun(T U V X:Value)=>show Gr w1 ((((D.setCell ⟨w1.heap.size,4,none⟩ T).setCell ⟨w1.heap.size,5,none⟩ U).setCell ⟨w1.heap.size,6,none⟩ V).setCell ⟨w1.heap.size,7,none⟩ X) from Gr.setCell (Gr.setCell (Gr.setCell (Gr.setCell gV.o (le_refl _) _) (le_refl _) _) (le_refl _) _) (le_refl _) _);have q:=Kz (fun(T U V X:Value)=>show((((D.setCell ⟨w1.heap.size,4,none⟩ T).setCell ⟨w1.heap.size,5,none⟩ U).setCell ⟨w1.heap.size,6,none⟩ V).setCell ⟨w1.heap.size,7,none⟩ X).heap.size=D.heap.size by simp);clear c3
 go_cut [6] (fun s6 wr=>∃(bv bk bs br:Nat) (fp:List Nat),s6=.pointer (some ⟨w1.heap.size,0,none⟩)∧ImC w1 (.slice ag0 g.1.length kg0) (.slice ag1 g.2.length kg1) (.slice at_ t.length kt) (.slice aL L.length kL) L L.length w1.heap.size bv bk bs br fp (Eng.new L.length) false wr)
 case first=>
  go_region
  all_goals
   go_wp2_with fail;go_meet;refine⟨_,_,_,_,_,rfl,Ja HN.o dB.o cO.o dS.o ((iw.o _ _ _ _).trans (Gr.drew (Gr.alloc (Gr.alloc (Gr.alloc (Gr.alloc (Gr.refl _) _) _) _) _))) ((ik.o _ _ _ _).gr (Gr.drew (Gr.alloc (Gr.alloc (Gr.alloc (Gr.alloc (Gr.refl _) _) _) _) _))) ?_ ?_ ?_ ?_ ?_ ?_⟩
   ·first|with_reducible exact wm (q.o _ _ _ _)|with_reducible exact vV (q.o _ _ _ _)|with_reducible exact wz (q.o _ _ _ _)|with_reducible exact vW (q.o _ _ _ _)
   ·first|with_reducible exact wm (q.o _ _ _ _)|with_reducible exact vV (q.o _ _ _ _)|with_reducible exact wz (q.o _ _ _ _)|with_reducible exact vW (q.o _ _ _ _)
   ·first|with_reducible exact wm (q.o _ _ _ _)|with_reducible exact vV (q.o _ _ _ _)|with_reducible exact wz (q.o _ _ _ _)|with_reducible exact vW (q.o _ _ _ _)
   ·first|with_reducible exact wm (q.o _ _ _ _)|with_reducible exact vV (q.o _ _ _ _)|with_reducible exact wz (q.o _ _ _ _)|with_reducible exact vW (q.o _ _ _ _)
   ·simp;omega
   ·simp;omega
 case rest=>
  obtain⟨bv,bk,bs,br,fp,rfl,hc⟩:=hcut;go_wp2_with fail;have hL:=HL.o;subst hL;exact bodyPost_ret (v:=.tuple #[.pointer (some ⟨w1.heap.size,0,none⟩),.bool true]) (by simp[results,Tryz.results42,go_sem]) rfl ⟨w1,aL,kL,w1.heap.size,bv,bk,bs,br,fp,rfl,gX.o,⟨fq,HS.o,fu.o⟩,hc.grow gd⟩
theorem Cg{ft:List Nat}(g:af d)(t:List aT){ag0:Option Addr}{kg0:Nat}{ag1:Option Addr}{kg1:Nat}{at_:Option Addr}{kt:Nat}(w:World)(hg:Rd.rd fg w [.slice ag0 g.1.length kg0,.slice ag1 g.2.length kg1] g)(ht:Rd.rd ft w [.slice at_ t.length kt] t)(T:aP g≤1048576)(O:kT g t=false):
  Qz 42 #[.agg #[.slice ag0 g.1.length kg0,.slice ag1 g.2.length kg1],.agg #[.slice at_ t.length kt]] w (.tuple #[.pointer none,.bool false]):=by
 have U:=Kz hg;have HT:=Kz ht;have V:=Kz T;have X:=Kz O;clear hg ht T O;delta Qz;go_in;go_wp2_with fail;obtain⟨B,I⟩:=nm ((w.alloc (.cells #[.slice ag0 g.1.length kg0,.slice ag1 g.2.length kg1] 39)).alloc (.cells #[.slice at_ t.length kt] 43));rw[←I];have Y:Gr w B:=by rw[I];exact gd
 have J:=Kz Y;have Z:=Kz (show az B w.heap.size 39 [.slice ag0 g.1.length kg0,.slice ag1 g.2.length kg1] by rw[I];exact(az.new rfl).gr gd);have VT:=Kz (show az B (w.heap.size+1) 43 [.slice at_ t.length kt] by rw[I];exact az.new (by simp));clear I Y;refine(uu xG uG g _ (Rd.gr U.o J.o) V.o).mono ?_
 by_cases q:jI g
 ·rw[bQ q]
  have ae:=Kz (show fP g t=false by
   have h:=X.o;unfold kT at h;rw[bQ q] at h;simpa using h)
  clear q;rintro e K ⟨rfl,g1⟩;have D:=Kz (J.o.trans g1);have d0:K.cell? ⟨w.heap.size,0,none⟩=some (.slice ag0 g.1.length kg0):=g1.keep (Z.o.c 0);have d1:K.cell? ⟨w.heap.size,1,none⟩=some (.slice ag1 g.2.length kg1):=g1.keep (Z.o.c 1);have d2:K.cell? ⟨w.heap.size+1,0,none⟩=some (.slice at_ t.length kt):=g1.keep (VT.o.c 0);clear g1;go_simp;go_wp2_with fail;refine(nG g t _ (Rd.gr U.o D.o) (Rd.gr HT.o D.o)).mono ?_;rw[ae.o];rintro e D2 ⟨rfl,g2⟩;have ah:=Kz (D.o.trans g2);clear g2;go_simp;go_wp2_with fail;exact bodyPost_ret (v:=.tuple #[.pointer none,.bool false]) (by simp[results,Tryz.results42,go_sem]) rfl ⟨rfl,ah.o.trans gd⟩
 ·rw[bV q]
  clear q;rintro e K ⟨rfl,g1⟩;have D:=Kz (J.o.trans g1);clear g1;go_simp;go_wp2_with fail;exact bodyPost_ret (v:=.tuple #[.pointer none,.bool false]) (by simp[results,Tryz.results42,go_sem]) rfl ⟨rfl,D.o.trans gd⟩
end Go.Proofs.YtleafadpfeibfaaGreat
