/- Contracts and laws towards ReadsOf, part 44 of 54. No condition. -/
import Derived.Test.YtleafadpfeibfaaGreatRx38
import Derived.Test.YtleafadpfeibfaaGreatRx40
set_option maxHeartbeats 32000000
set_option maxRecDepth 10000
set_option linter.unusedVariables false
set_option linter.unusedSimpArgs false
namespace Go.Proofs.YtleafadpfeibfaaGreat
open Go.RowKit
open _root_.List (getElem_mem map_take take_length)
variable{d:Nat}
variable{c g:Nat}{W W' w0:World}
theorem tH:(d:Nat)→(x:GE d)→(gP d x).length≤cZ d x
 |0,x=>PEmpty.elim x
 |d+1,x=>by
  obtain⟨q0,q1,q2,q3,q4,q5,q6⟩:=(x:aA d);rw[wW,wE,List.length_append];have h1:(if q0=3 then[(q2,q5)] else[]:List ag).length≤1:=by split<;>simp
  have q:∀h:List (GE d),(h.flatMap (gP d)).length≤(h.map (cZ d)).sum:=by
   intro h
   induction h with
   |nil=>simp
   |cons y h B=>
    have:=tH d y;simp only[List.flatMap_cons,List.length_append,List.map_cons,List.sum_cons];omega
  have:=q q6;omega
structure qY(w0:World)(c g:Nat)(W:World)(L:List ag):Prop where
 gr:Gr w0 W
 hc:w0.heap.size≤c
 ne:c≠g
 fz:W.frozen? ⟨c,0,none⟩=false
 row:∃v fps,W.cell? ⟨c,0,none⟩=some v∧bE (α:=ag) w0 181 W v fps L∧fps.flatten=[]∧v.ownBlock=some g
structure je(c g:Nat)(W:World)(g':Nat)(W':World):Prop where
 wr:Wr [c,g] W W'
 nw:g'=g∨W.heap.size≤g'
theorem qY.grow{L:List ag}(h:qY w0 c g W L)(hg:Gr W W'):qY w0 c g W' L:=by
 obtain⟨v,fps,h1,q,B,D⟩:=h.row;exact⟨h.gr.trans hg,h.hc,h.ne,(hg.eF []).vZ h.fz (blk h1) (by simp),v,fps,hg.keep h1,q.gr hg,B,D⟩
theorem qY.lt{L:List ag}(h:qY w0 c g W L):c<W.heap.size∧g<W.heap.size∧w0.heap.size≤g:=by
 obtain⟨v,fps,h1,q,D,B⟩:=h.row;exact⟨blk h1,(q.base g B).2,(q.base g B).1⟩
theorem je.refl(c g:Nat)(W:World):je c g W g W:=⟨Wr.refl _ _,.inl rfl⟩
theorem je.dm(h:Gr W W'):je c g W g W':=⟨h.eF _,.inl rfl⟩
theorem je.trans{B g2:Nat}{D:World}(h:je c g W B W')(k:je c B W' g2 D):je c g W g2 D:=by
 refine⟨h.wr.Jp k.wr fun x q=>?_,?_⟩
 ·rcases List.mem_cons.1 q with rfl|q
  ·exact .inl (by simp)
  ·rcases h.nw with e|e
   ·rw[List.mem_singleton.1 q,e];exact .inl (by simp)
   ·rw[List.mem_singleton.1 q];exact .inr e
 ·have:=h.wr.size
  rcases k.nw with e|e
  ·rw[e];exact h.nw
  ·exact .inr (by omega)
theorem je.keep{q:Nat}(h:je c g W q W'){b o:Nat}{v:Value}(hc:W.cell? ⟨b,o,none⟩=some v)(h1:b≠c)(B:b≠g):W'.cell? ⟨b,o,none⟩=some v:=
 h.wr.aO hc (by simp[h1,B])
def tK(w0:World)(c g:Nat)(W:World)(L:List ag)(w':World):Prop:=∃h,qY w0 c h w' L∧je c g W h w'
theorem FV{L:List ag}(fp:List Nat)(cs:Array Value)(x:aA d)(hx:Rd.rd fp W cs.toList x)(D:qY w0 c g W L)(hl:L.length+1≤2097152):
  Calls Tryz.prog 249 #[.agg cs,.pointer (some ⟨c,0,none⟩)] W fun e w'=>e=.returned (.bool true)∧tK w0 c g W (L++if x.1=3 then[(x.2.2.1,x.2.2.2.2.2.1)] else[]) w':=by
 obtain⟨i0,hi⟩:=info_parts Tryz.nX;have K:=Kz hi;clear hi;have q:=Kz D;obtain⟨q0,q1,q2,q3,q4,q5,q6,bX,cB,cK,rfl,rfl,-,au,ax,T,ay,aZ,U,bg,bL,bR⟩:=KU hx;clear hx;have V:=Kz (And.intro T U)
 show Calls _ _ _ _ fun e w'=>e=.returned (.bool true)∧tK w0 c g W (L++if q0=3 then[(q2,q5)] else[]) w'
 by_cases I:q0=3
 ·subst I
  obtain⟨v,fps,hc,hown,hf,hb⟩:=D.row;obtain⟨ra,rc,rfl⟩:=hown.form;have HO:=Kz hown;have HF:=Kz hf;have O:=Kz hb;have zc:=blk hc;have HG:=Kz D.gr;clear D hown hf hb au ax T ay aZ U bg;rw[if_pos rfl];go_in
  go_wp2_with (first|(at_builtin;refine eU (α:=ag) (wg:=w0) (w0:=w0) (tg HG) (Nat.le_refl _) (tg HG).size rfl _ _ 254 rfl 181 i0 _ _ Tryz.underlying254 K.o.1 K.o.2.1 K.o.2.2.1 K.o.2.2.2 rfl _ fps L (by rfl) (HO.o.gr gd) _ [[]] [(q2,q5)] (by rfl) (eT.one (by simp) (bO q2 q5 V.o.1 V.o.2)) (fun b _=>by simp) (by unfold maxLen;simp;omega) (by simp;omega) ?_;intro v3 J h1 h2 I h4;obtain⟨X,Y,Z⟩:=h1.form;rw[show(L++([(q2,q5)]:List ag)).length=L.length+1 by simp] at Z;subst Z;have K1:=Kz h1;have K4:=Kz h4;have K2:=Kz ((show Gr W _ from gd).eF _ |>.trans h2);have K3:=Kz I;have ae:J.cell? ⟨c,0,none⟩=some (.slice ra L.length rc):=K2.o.aO hc (by rw[O.o];simpa using q.o.ne);have cO:=blk ae;have bq:J.frozen? ⟨c,0,none⟩=false:=K2.o.vZ q.o.fz zc (by rw[O.o];simpa using q.o.ne);clear h1 h2 I h4))
  go_ret
  have bB:∃B,(Value.slice X (L.length+1) Y).ownBlock=some B∧c≠B∧(B=g∨W.heap.size≤B):=by
   rcases K3.o with h|h
   ·exact⟨g,by rw[h];exact O.o,q.o.ne,.inl rfl⟩
   ·exact⟨_,h,by simp;omega,.inr (by simp;omega)⟩
  obtain⟨B,ah,ai,bH⟩:=bB;have aj:Wr [c] J (J.setCell ⟨c,0,none⟩ (.slice X (L.length+1) Y)):=(Wr.refl _ _).setCell (by simp) _;have ak:(fps++[[]]).flatten=[]:=by simp[HF.o]
  refine⟨rfl,B,⟨Gr.setCell K4.o (by show _≤c;exact q.o.hc) _,q.o.hc,ai,by rw[World.frozen?_setCell];exact bq,_,_,iY ae,K1.o.wr aj (by rw[ak];simp) (fun b hb=>?_),ak,ah⟩,⟨?_,bH⟩⟩
  ·rw[ah] at hb
   injection hb with hb;rw[←hb];simpa using fun e=>ai e.symm
  ·refine Wr.trans (b:=J) (K2.o.sub fun b hb=>?_) (aj.sub fun b hb=>?_)
   ·rw[O.o] at hb
    simp at hb;simp[hb]
   ·simp at hb;simp[hb]
 ·rw[if_neg I,List.append_nil]
  clear D;go_in;go_wp2_with fail;go_ret;exact⟨rfl,g,q.o.grow gd,je.dm gd⟩
theorem Cb(fp:List Nat)(cs:Array Value)(x:bC)(s:ByteArray)(b:Nat)(w:World)(B:Rd.rd fp w cs.toList x)(hb:w.cell? ⟨b,0,none⟩=some (.string s)):Qz 210 #[.agg cs,.pointer (some ⟨b,0,none⟩)] w (.bool (decide (x.1=s))):=by
 obtain⟨q0,q1⟩:=x;obtain⟨D,I,rfl,-,J,q⟩:=aV (cs:=cs) q0 q1 B;obtain⟨K,O,rfl,-,-,-⟩:=q.open;have T:=blk hb;delta Qz;go_in;go_wp2_with fail;go_ret;refine⟨aa ?_,gd⟩
 by_cases h:q0=s
 ·rw[decide_eq_true h,h];simp
 ·rw[decide_eq_false h,beq_eq_false_iff_ne.2 fun e=>h (str_inj e)]
theorem BJ(fp:List Nat)(cs:Array Value)(x:aW d)(s:ByteArray)(b:Nat)(w:World)(q:Rd.rd fp w cs.toList x)(hb:w.cell? ⟨b,0,none⟩=some (.string s)):Qz 213 #[.agg cs,.pointer (some ⟨b,0,none⟩)] w (.bool (decide (x.1=s))):=by
 obtain⟨B,x1,x2,x3,x4,x5,U,V,X,Y,Z,ae,ah,ai,aj,rfl,rfl,-,ak,au,ax,D,I,ay,J,K,aZ,O,T⟩:=KV q;clear q;have bg:=blk hb;delta Qz;go_in;go_wp2_with fail;go_ret;refine⟨aa ?_,gd⟩
 by_cases h:B=s
 ·rw[decide_eq_true h,h];simp
 ·rw[decide_eq_false h,beq_eq_false_iff_ne.2 fun e=>h (str_inj e)]
theorem Ca(fg:List Nat)(cg:Array Value)(g:af d)(w:World)(hg:Rd.rd fg w cg.toList g)(hl:aP g≤1048576):Calls Tryz.prog 171 #[.agg cg] w (Ju g w):=by
  obtain⟨g0,g1,ag0,kg0,uz,ag1,kg1,ve,rfl,rfl,-,ai,lq,oH,aj,oL,o5⟩:=yt hg;have dV:=ai.op3;have fe:=aj.op3;clear hg;have bq:wtL bM g0+wtL bF g1≤1048576:=hl;have vB:g0.length≤1048576:=by have:=bT bM g0;omega
  have vD:g1.length≤1048576:=by have:=bT bF g1;omega
  have HL:=Kz bq;clear hl bq;go_in;go_wp2_with fail;generalize hB:(w.alloc (.cells #[.slice ag0 g0.length kg0,.slice ag1 g1.length kg1] 39))=B;have gB:Gr w B:=gb hB;obtain⟨bB,bH⟩:=kb2 hB (w.heap.size) (.slice ag0 g0.length kg0) (.slice ag1 g1.length kg1);clear hB
  go_loopw [10] (fun s6 wr=>∃k:Nat,k≤g0.length∧Ky (∀a∈g0.take k,Dv a)∧Ky (kM Prod.fst (g0.take k))∧Ky (Gr B wr)∧s6=.int .i64 k) (fun s6 _=>g0.length - (intOf s6).toNat)
  case atStart=>exact⟨0,by omega,Kz (by simp),Kz (by intro i h;simp at h),Kz (Gr.refl _),rfl⟩
  case round=>
    skip;obtain⟨k,hk,HA,HD,D,rfl⟩:=hrel
    rename World=>W1
    have Y:=bB _ D.o;have O:=bH _ D.o;have Z:=blk O;have U:=gB.trans D.o;have I:=Kz U
    by_cases q:k<g0.length
    · have ak:=dI bM g0 q
      have au:=Kz (show bM g0[k]≤1048576 by have:=HL.o;omega);have ax:=Kz (fun h=>dD q HA.o h);have ay:=Kz (lK q HD.o);have aZ:=Kz (oC (f:=Prod.fst) (xs:=g0) q);have ae:=Kz (getElem_mem q);obtain⟨fu,V,-⟩:=ai.pre hk;have ah:=Kz (V.gr I.o);clear ak V;obtain⟨b,off,rfl,gD⟩:=dV k q;obtain⟨q0,q1,bL,bR,vF,gF,J,bg,gT,gV,o9,qb,gX,ik,kr⟩:=K9 ai q U;have k0:(0:Int)≤(k:Int):=by omega
      have k1:(k:Int)<(g0.length:Int):=by omega
      have iw:=zI1 k (by omega);clear U;go_wp2_with fail;generalize hC:(W1.alloc (.cells #[.string q0,.slice bL q1.length bR] 123))=C;have gC:Gr W1 C:=gb hC;have VC:=Kz (show az C W1.heap.size 123 [.string q0,.slice bL q1.length bR] from by rw[←hC];exact az.new rfl);replace Y:=gC.keep Y;replace O:=gC.keep O;replace Z:=blk O;have K:=Kz gC;clear hC gC;refine(Dt _ _ (q0,q1) _ (Rd.gr bg.o (I.o.trans K.o)) (by rw[J.o];exact au.o)).mono ?_;rintro e w' ⟨rfl,x1,rfl⟩
      by_cases T:Dv (q0,q1)
      · rw[bQ T]
        have HP:=Kz T;clear T;replace Y:=(show Gr C (C.ext x1) from gd).keep Y;replace O:=(show Gr C (C.ext x1) from gd).keep O;replace Z:=blk O
        have HT:=Kz (show TestSymbol (C.ext x1) 210 #[.pointer (some ⟨W1.heap.size,0,none⟩)] (fun a=>decide (a.1=q0)) (g0.take k) from
          ⟨Tryz.call210,fun z _ x fp cs hr=>Cb fp cs z q0 _ _ hr ((VC.o.gr gd).c 0)⟩)
        go_wp2_with (first|(go_at_call 209;refine(nk _ _ (g0.take k) _ _ (fun a=>decide (a.1=q0)) _ (ah.o.gr (tg K)) HT.o).mono ?_;rintro e w' ⟨rfl,x2,rfl⟩;rw[Aq]))
        go_ways
        all_goals first
          | (have X:q0∈List.take k (List.map Prod.fst g0):=dx.1 ‹_›
             have hm:q0∈(g0.take k).map Prod.fst:=by rw[map_take];exact X
             go_ret;exact⟨k,rfl,by omega,by omega,⟨fun h=>by omega,fun h=>absurd h.2.1 (aZ.o (by rw[←J.o];exact hm))⟩,I.o.trans (tg K)⟩)
          | (have X:¬(q0∈List.take k (List.map Prod.fst g0)):=lM ‹_›
             have hm:¬(q0∈(g0.take k).map Prod.fst):=by rw[map_take];exact X
             exact⟨⟨k+1,by omega,Kz (ax.o (by rw[←J.o];exact HP.o)),Kz (ay.o (by rw[←J.o];exact hm)),Kz (D.o.trans (tg K)),by go_num⟩,by simp[intOf];omega⟩)
         
      · rw[bV T]
        have HP:=Kz T;clear T;go_wp2_with fail;go_ret;exact⟨k,rfl,by omega,by omega,⟨fun h=>by omega,fun h=>absurd (h.1 _ ae.o) (by rw[←J.o];exact HP.o)⟩,I.o.trans (tg K)⟩
    · obtain rfl:k=g0.length:=by omega
      rw[take_length] at HA HD;have ku:=HA;have ky:=HD;go_wp2_with fail
      go_loopw [31] (fun s6 wr=>∃k:Nat,k≤g1.length∧Ky (∀a∈g1.take k,j3 a)∧Ky (kM Prod.fst (g1.take k))∧Ky (Gr B wr)∧s6=.int .i64 k) (fun s6 _=>g1.length - (intOf s6).toNat)
      case atStart=>exact⟨0,by omega,Kz (by simp),Kz (by intro i h;simp at h),D,rfl⟩
      case round=>
        clear Y O Z D U I;obtain⟨k,hk,HA,HD,D,rfl⟩:=hrel
        rename World=>W2
        have Y:=bB _ D.o;have O:=bH _ D.o;have Z:=blk O;have U:=gB.trans D.o;have I:=Kz U
        by_cases q:k<g1.length
        · have ak:=dI bF g1 q
          have au:=Kz (show bF g1[k]≤1048576 by have:=HL.o;omega);have ax:=Kz (fun h=>dD q HA.o h);have ay:=Kz (lK q HD.o);have aZ:=Kz (oC (f:=Prod.fst) (xs:=g1) q);have ae:=Kz (getElem_mem q);obtain⟨fu,V,-⟩:=aj.pre hk;have ah:=Kz (V.gr I.o);clear ak V;obtain⟨b,off,rfl,gD⟩:=fe k q;obtain⟨q0,q1,q2,q3,q4,q5,bX,cB,vG,cK,cO,vL,dB,dS,vO,gF,J,bg,gT,gV,vR,q8,q9,vX,sO,uf,wF,uo,uq,gX,ik,wL,w9,xc,x9,kr⟩:=Lf aj q U;have k0:(0:Int)≤(k:Int):=by omega
          have k1:(k:Int)<(g1.length:Int):=by omega
          have iw:=zI1 k (by omega);clear U;go_wp2_with fail;generalize hC:(W2.alloc (.cells #[.string q0,.string q1,.slice bX q2.length cB,.bool q3,.slice cK q4.length cO,.slice dB q5.length dS] 128))=C;have gC:Gr W2 C:=gb hC;have VC:=Kz (show az C W2.heap.size 128 [.string q0,.string q1,.slice bX q2.length cB,.bool q3,.slice cK q4.length cO,.slice dB q5.length dS] from by rw[←hC];exact az.new rfl);replace Y:=gC.keep Y;replace O:=gC.keep O;replace Z:=blk O;have K:=Kz gC;clear hC gC;refine(BB _ _ (q0,q1,q2,q3,q4,q5) _ (Rd.gr bg.o (I.o.trans K.o)) (by rw[J.o];exact au.o)).mono ?_;rintro e w' ⟨rfl,x1,rfl⟩
          by_cases T:j3 (q0,q1,q2,q3,q4,q5)
          · rw[bQ T]
            have HP:=Kz T;clear T;replace Y:=(show Gr C (C.ext x1) from gd).keep Y;replace O:=(show Gr C (C.ext x1) from gd).keep O;replace Z:=blk O
            have HT:=Kz (show TestRule (C.ext x1) 213 #[.pointer (some ⟨W2.heap.size,0,none⟩)] (fun a=>decide (a.1=q0)) (g1.take k) from
              ⟨Tryz.call213,fun z _ x fp cs hr=>BJ fp cs z q0 _ _ hr ((VC.o.gr gd).c 0)⟩)
            go_wp2_with (first|(go_at_call 212;refine(oQ _ _ (g1.take k) _ _ (fun a=>decide (a.1=q0)) _ (ah.o.gr (tg K)) HT.o).mono ?_;rintro e w' ⟨rfl,x2,rfl⟩;rw[Aq]))
            go_ways
            all_goals first
              | (have X:q0∈List.take k (List.map Prod.fst g1):=dx.1 ‹_›
                 have hm:q0∈(g1.take k).map Prod.fst:=by rw[map_take];exact X
                 go_ret;exact⟨k,rfl,by omega,by omega,⟨fun h=>by omega,fun h=>absurd h.2.2.2 (aZ.o (by rw[←J.o];exact hm))⟩,I.o.trans (tg K)⟩)
              | (have X:¬(q0∈List.take k (List.map Prod.fst g1)):=lM ‹_›
                 have hm:¬(q0∈(g1.take k).map Prod.fst):=by rw[map_take];exact X
                 exact⟨⟨k+1,by omega,Kz (ax.o (by rw[←J.o];exact HP.o)),Kz (ay.o (by rw[←J.o];exact hm)),Kz (D.o.trans (tg K)),by go_num⟩,by simp[intOf];omega⟩)
             
          · rw[bV T]
            have HP:=Kz T;clear T;go_wp2_with fail;go_ret;exact⟨k,rfl,by omega,by omega,⟨fun h=>by omega,fun h=>absurd (h.2.2.1 _ ae.o) (by rw[←J.o];exact HP.o)⟩,I.o.trans (tg K)⟩
        · obtain rfl:k=g1.length:=by omega
          rw[take_length] at HA HD;go_wp2_with fail;go_ret;exact⟨-1,rfl,by omega,by omega,⟨fun _=>⟨ku.o,ky.o,HA.o,HD.o⟩,fun _=>by omega⟩,I.o⟩
def IE(d:Nat):Prop:=∀(fg fr:List Nat) (cg cr:Array Value) (g:af d) (r:aW d) (w:World) (hg:Rd.rd fg w cg.toList g) (hr:Rd.rd fr w cr.toList r) (q:aP g≤1048576) (h:bF r≤1048576),
 Calls Tryz.prog 177 #[.agg cg,.agg cr] w fun e w'=>e=.returned (.bool (!pB (kH g r)))∧Gr w w'
theorem yJ(fp:List Nat)(cs:Array Value)(x:aQ)(w:World)(q:Rd.rd fp w cs.toList x):Qz 173 (#[.agg cs]++#[]) w (.bool (decide (x.2.2.1=1))):=by
 obtain⟨q0,q1,q2,q3⟩:=x;obtain⟨rfl,-,-,-,-⟩:=aR (cs:=cs) q0 q1 q2 q3 q;clear q
 show Calls Tryz.prog 173 #[.agg _] w _
 (try delta Qz);go_in;go_wp2_with fail;go_ret;refine⟨aa ?_,gd⟩
 by_cases h:q2=1<;>simp[h]
theorem Am(bB:IE d){fg:List Nat}{cg:Array Value}(g:af d)(w:World)(hg:Rd.rd fg w cg.toList g)(hl:aP g≤1048576):
  Calls Tryz.prog 134 #[.agg cg] w (Fg g w):=by
 have V:=Kz hl;have bH:=Kz bB;clear bB;have HG:=Kz hg;obtain⟨g0,g1,ag0,kg0,x9,ag1,kg1,yc,rfl,rfl,-,cB,vB,vD,cK,vF,vG⟩:=yt hg;have ku:=cB.op3;have ky:=cK.op3;clear hg;have cO:wtL bM g0+wtL bF g1≤1048576:=hl;have yu:g0.length≤1048576:=by have:=bT bM g0;omega
 have y5:g1.length≤1048576:=by have:=bT bF g1;omega
 have HL:=Kz cO;clear hl cO
 by_cases ae:(1≤(g0.length:Int)∧(g0.length:Int)≤4)∧(1≤(g1.length:Int)∧(g1.length:Int)≤8)
 ·have dB:(decide (1≤(g0.length:Int))&&decide ((g0.length:Int)≤4))=true:=by rw[decide_eq_true ae.1.1,decide_eq_true ae.1.2];rfl
  have dS:(decide (1≤(g1.length:Int))&&decide ((g1.length:Int)≤8))=true:=by rw[decide_eq_true ae.2.1,decide_eq_true ae.2.2];rfl
  have au:=Kz ae;have h00:0<g0.length:=by omega
  have X:=h00;have y7:(0:Int)<(g0.length:Int):=by omega
  clear ae;go_in
  go_wp2_with (first|(go_at_call_of 137 g0;refine(di _ _ _ _).mono ?_;rintro e w' ⟨rfl,rfl⟩;rw[dB])|(go_at_call_of 137 g1;refine(di _ _ _ _).mono ?_;rintro e w' ⟨rfl,rfl⟩;rw[dS]))
  refine(Ca _ _ (g0,g1) _ (Rd.gr HG.o gd) V.o).mono ?_;rintro e w' ⟨bi,rfl,y8,y9,ax,x1,rfl⟩;have bL:=Kz ax;clear ax dB dS
  by_cases bR:0≤bi
  ·go_wp2_with fail
   exact bodyPost_ret (v:=.tuple #[.int .i64 1,.int .i64 bi]) (by simp[results,Tryz.results134,go_sem]) rfl ⟨1,bi,rfl,⟨fun h=>absurd h (by decide),fun h=>by have:=bL.o.2 h.2.2.1;omega⟩,gd⟩
  ·have lq:=Kz (bL.o.1 (by omega))
   have za:¬(0≤bi):=bR;clear bL bR;generalize hB:(w.alloc (.cells #[.slice ag0 g0.length kg0,.slice ag1 g1.length kg1] 39)).ext x1=B0;have gB:Gr w B0:=gb hB;have dV:=Kz (show az B0 w.heap.size 39 [.slice ag0 g0.length kg0,.slice ag1 g1.length kg1] from by rw[←hB];exact kv);have aj:=Kz gB;obtain⟨v0,v1⟩:=dV.o.c2;have zv:=blk v0;clear hB;obtain⟨b,off,rfl,ax⟩:=ku 0 X;obtain⟨q0,q1,zb,ze,zf,zg,fe,oH,oL,fu,vL,vO,gD,gF,o5⟩:=K9 cB X gB;simp only[Nat.zero_mul,Nat.add_zero,Nat.zero_add] at gD gF;have gT:=Kz fu;have gV:=Kz (show(q0,q1)=g0[0]'h00 from fe.o);clear X fe oH oL fu;have HT:=Kz (show∀W,TestAttribute W 173 #[] (fun a=>decide (a.2.2.1=1)) q1 from fun W=>⟨Tryz.call173,fun z _ x fp cs hr=>yJ fp cs z _ hr⟩);obtain⟨M,hM⟩:=nm (q1.any (fun a=>decide (a.2.2.1=1)));have HM:=Kz hM;clear hM
   cases M with
   |true=>
    go_wp2_with (first|(go_at_call 172;refine(gW _ _ q1 _ _ (fun a=>decide (a.2.2.1=1)) _ (gT.o.gr (tg aj)) (HT.o _)).mono ?_;rintro e w' ⟨rfl,x2,rfl⟩;rw[←HM.o]))
    exact bodyPost_ret (v:=.tuple #[.int .i64 2,.int .i64 0]) (by simp[results,Tryz.results134,go_sem]) rfl ⟨2,0,rfl,⟨fun h=>absurd h (by decide),fun h=>by
     obtain⟨a,ha,h2⟩:=List.any_eq_true.1 HM.o.symm;have h1:=h.2.2.2.1 (q0,q1) (by rw[gV.o];show g0.head?=_;rw[List.head?_eq_getElem?];exact List.getElem?_eq_getElem h00) a ha;exact absurd (of_decide_eq_true h2) h1⟩,aj.o.trans gd⟩
   |false=>
    have o9:=Kz (show Du (g0,g1) from fun s hs a ha=>by
     have h1:g0.head?=some s:=hs;rw[List.head?_eq_getElem?,List.getElem?_eq_getElem h00] at h1;injection h1 with h1;rw[←h1,←gV.o] at ha;have h2:=List.any_eq_false.1 HM.o.symm a ha;simpa using h2)
    go_wp2_with (first|(go_at_call 172;refine(gW _ _ q1 _ _ (fun a=>decide (a.2.2.1=1)) _ (gT.o.gr (tg aj)) (HT.o _)).mono ?_;rintro e w' ⟨rfl,x2,rfl⟩;rw[←HM.o]))
    have ay:Gr B0 (B0.ext x2):=gd;generalize B0.ext x2=B at ay ⊢;have VG:=Kz (dV.o.gr ay);have gX:=Kz (aj.o.trans ay);obtain⟨v0,v1⟩:=VG.o.c2;have zv:=blk v0;clear ay gB gD gF o5
    go_loopw [5] (fun s6 wr=>∃c:Int,3≤c∧c≤7∧Ky (∀r∈g1,∀c':Int,3≤c'→c'<c→mG (g0,g1) r c'=false)∧Ky (Gr B wr)∧s6=.int .i64 c) (fun s6 _=>7 - (intOf s6).toNat)
    case atStart=>exact⟨3,by omega,by omega,Kz (fun r hr c' h1 h2=>by omega),Kz (Gr.refl _),rfl⟩
    case round=>
     clear v0 v1 zv;obtain⟨c,qb,zl,ik,D,rfl⟩:=hrel
     rename World=>W2
     have vg:=VG.o.gr D.o;obtain⟨y0,y1⟩:=vg.c2;have zy:=blk y0;have zn:IntKind.i64.wrap (c+1)=c+1:=IntWalk.i64_in _ (by omega);clear vg
     by_cases hc:c≤6
     ·go_wp2_with fail
      go_loopw [39] (fun s7 wr=>∃k:Nat,k≤g1.length∧Ky (∀r∈g1.take k,mG (g0,g1) r c=false)∧Ky (Gr B wr)∧s7=.int .i64 k) (fun s7 _=>g1.length - (intOf s7).toNat)
      case atStart=>exact⟨0,by omega,Kz (by simp),D,rfl⟩
      case round=>
       clear y0 y1 zy D;obtain⟨k,hk,HA,D,rfl⟩:=hrel
       rename World=>W3
       have bX:=gX.o.trans D.o;have q:=Kz bX;have vg:=VG.o.gr D.o;obtain⟨y0,y1⟩:=vg.c2;have zy:=blk y0;clear vg
       by_cases X:k<g1.length
       ·have aZ:=Kz (fun h=>dD X HA.o h)
        have ak:=Kz (getElem_mem X);have q8:=dI bF g1 X;have q9:=Kz (show bF g1[k]≤1048576 by have:=HL.o;omega);clear q8;obtain⟨b,off,rfl,ax⟩:=ky k X;obtain⟨K,O,J,Y,T,U,zo,zq,zu,zx,zH,zL,zO,z8,A7,BM,Z,ah,sO,uf,uo,vR,vX,uq,wF,wL,uz,w9,xc,EB,E5,FX,F4,F5,F6,F8⟩:=Lf cK X bX;have ai:=Kz (show bF (K,O,J,Y,T,U)≤1048576 by rw[Z.o];exact q9.o)
        have kr:J.length≤1048576:=by
         have h1:K.size+O.size+wtL ByteArray.size J+wtL aU T+wtL aI U≤1048576:=ai.o;have h2:=bT ByteArray.size J;omega
        have k0:(0:Int)≤(k:Int):=by omega
        have k1:(k:Int)<(g1.length:Int):=by omega
        have iw:=zI1 k (by omega);obtain⟨M,hM⟩:=nm (mG (g0,g1) (K,O,J,Y,T,U) c);have I:=Kz hM;have bg:=Kz qb;have bq:=Kz hc;clear bX hM sO uf uo uq uz;have ve:c=3∨c=4∨c=5∨c=6:=by omega
        rcases ve with rfl|rfl|rfl|rfl
        ·have HX:=Kz (show(!pB (nV (g0,g1) (K,O,J,Y,T,U)))=M from I.o.symm)
         cases M with
         |false=>
          go_wp2_with (first|(go_at_call 174;refine(qg (g0,g1) (K,O,J,Y,T,U) _ (Rd.gr HG.o (tg q)) (Rd.gr ah.o (tg q)) V.o kr).mono ?_;rintro e w' ⟨rfl,x5,rfl⟩;rw[HX.o]))
          exact⟨⟨k+1,by omega,Kz (aZ.o (by rw[←Z.o];exact I.o.symm)),Kz (tg D),by go_num⟩,by simp[intOf];omega⟩
         |true=>
          go_wp2_with (first|(go_at_call 174;refine(qg (g0,g1) (K,O,J,Y,T,U) _ (Rd.gr HG.o (tg q)) (Rd.gr ah.o (tg q)) V.o kr).mono ?_;rintro e w' ⟨rfl,x5,rfl⟩;rw[HX.o]))
          exact bodyPost_ret (v:=.tuple #[.int .i64 3,.int .i64 k]) (by simp[results,Tryz.results134,go_sem]) rfl ⟨3,k,rfl,⟨fun h=>by omega,fun h=>by
           have h1:=h.2.2.2.2 _ ak.o 3 bg.o bq.o;rw[←Z.o,←I.o] at h1
           cases h1⟩,q.o.trans gd⟩
        ·have HX:=Kz (show(!pB (FL (g0,g1) (K,O,J,Y,T,U)))=M from I.o.symm)
         cases M with
         |false=>
          go_wp2_with (first|(go_at_call 175;refine(uV (g0,g1) (K,O,J,Y,T,U) _ (Rd.gr HG.o (tg q)) (Rd.gr ah.o (tg q)) V.o ai.o).mono ?_;rintro e w' ⟨rfl,x5,rfl⟩;rw[HX.o]))
          exact⟨⟨k+1,by omega,Kz (aZ.o (by rw[←Z.o];exact I.o.symm)),Kz (tg D),by go_num⟩,by simp[intOf];omega⟩
         |true=>
          go_wp2_with (first|(go_at_call 175;refine(uV (g0,g1) (K,O,J,Y,T,U) _ (Rd.gr HG.o (tg q)) (Rd.gr ah.o (tg q)) V.o ai.o).mono ?_;rintro e w' ⟨rfl,x5,rfl⟩;rw[HX.o]))
          exact bodyPost_ret (v:=.tuple #[.int .i64 4,.int .i64 k]) (by simp[results,Tryz.results134,go_sem]) rfl ⟨4,k,rfl,⟨fun h=>by omega,fun h=>by
           have h1:=h.2.2.2.2 _ ak.o 4 bg.o bq.o;rw[←Z.o,←I.o] at h1
           cases h1⟩,q.o.trans gd⟩
        ·have HX:=Kz (show(!pB (qd (g0,g1) (K,O,J,Y,T,U)))=M from I.o.symm)
         cases M with
         |false=>
          go_wp2_with (first|(go_at_call 176;refine(sD (g0,g1) (K,O,J,Y,T,U) _ (Rd.gr HG.o (tg q)) (Rd.gr ah.o (tg q)) V.o ai.o).mono ?_;rintro e w' ⟨rfl,x5,rfl⟩;rw[HX.o]))
          exact⟨⟨k+1,by omega,Kz (aZ.o (by rw[←Z.o];exact I.o.symm)),Kz (tg D),by go_num⟩,by simp[intOf];omega⟩
         |true=>
          go_wp2_with (first|(go_at_call 176;refine(sD (g0,g1) (K,O,J,Y,T,U) _ (Rd.gr HG.o (tg q)) (Rd.gr ah.o (tg q)) V.o ai.o).mono ?_;rintro e w' ⟨rfl,x5,rfl⟩;rw[HX.o]))
          exact bodyPost_ret (v:=.tuple #[.int .i64 5,.int .i64 k]) (by simp[results,Tryz.results134,go_sem]) rfl ⟨5,k,rfl,⟨fun h=>by omega,fun h=>by
           have h1:=h.2.2.2.2 _ ak.o 5 bg.o bq.o;rw[←Z.o,←I.o] at h1
           cases h1⟩,q.o.trans gd⟩
        ·have HX:=Kz (show(!pB (kH (g0,g1) (K,O,J,Y,T,U)))=M from I.o.symm)
         cases M with
         |false=>
          go_wp2_with (first|(go_at_call 177;refine(bH.o _ _ _ _ (g0,g1) (K,O,J,Y,T,U) _ (Rd.gr HG.o (tg q)) (Rd.gr ah.o (tg q)) V.o ai.o).mono ?_;rintro e w' ⟨rfl,x5,rfl⟩;rw[HX.o]))
          exact⟨⟨k+1,by omega,Kz (aZ.o (by rw[←Z.o];exact I.o.symm)),Kz (tg D),by go_num⟩,by simp[intOf];omega⟩
         |true=>
          go_wp2_with (first|(go_at_call 177;refine(bH.o _ _ _ _ (g0,g1) (K,O,J,Y,T,U) _ (Rd.gr HG.o (tg q)) (Rd.gr ah.o (tg q)) V.o ai.o).mono ?_;rintro e w' ⟨rfl,x5,rfl⟩;rw[HX.o]))
          exact bodyPost_ret (v:=.tuple #[.int .i64 6,.int .i64 k]) (by simp[results,Tryz.results134,go_sem]) rfl ⟨6,k,rfl,⟨fun h=>by omega,fun h=>by
           have h1:=h.2.2.2.2 _ ak.o 6 bg.o bq.o;rw[←Z.o,←I.o] at h1
           cases h1⟩,q.o.trans gd⟩
       ·obtain rfl:k=g1.length:=by omega
        rw[take_length] at HA;go_wp2_with fail
        exact⟨⟨c+1,by omega,by omega,Kz (fun r hr c' h1 h2=>by
         by_cases h3:c'<c
         ·exact ik.o r hr c' h1 h3
         ·obtain rfl:c'=c:=by omega
          exact HA.o r hr),D,rfl⟩,by simp[intOf];omega⟩
     ·have HF:=Kz (show o7 (g0,g1) from⟨by have h1:=au.o.1;show 1≤g0.length∧g0.length≤4;omega,by have h1:=au.o.2;show 1≤g1.length∧g1.length≤8;omega,lq.o,o9.o,fun r hr c' h1 h2=>ik.o r hr c' h1 (by omega)⟩)
      have q:=Kz (gX.o.trans D.o);go_wp2_with fail;exact bodyPost_ret (v:=.tuple #[.int .i64 0,.int .i64 0]) (by simp[results,Tryz.results134,go_sem]) rfl ⟨0,0,rfl,⟨fun _=>HF.o,fun _=>rfl⟩,q.o⟩
 ·have au:=Kz ae
  have HN:=Kz (show¬o7 (g0,g1) from fun h=>au.o ⟨by have h1:1≤g0.length∧g0.length≤4:=h.1;omega,by have h1:1≤g1.length∧g1.length≤8:=h.2.1;omega⟩);clear ae;go_in
  go_wp2_with (first|(go_at_call_of 137 g0;refine(di _ _ _ _).mono ?_;rintro e w' ⟨rfl,rfl⟩)|(go_at_call_of 137 g1;refine(di _ _ _ _).mono ?_;rintro e w' ⟨rfl,rfl⟩))
  go_ways
  all_goals first
   |(exfalso;refine au.o ⟨?_,?_⟩<;>first|assumption|(simp_all;done)|(simp_all;omega))
   |(exact bodyPost_ret (v:=.tuple #[.int .i64 1,.int .i64 0]) (by simp[results,Tryz.results134,go_sem]) rfl ⟨1,0,rfl,⟨fun h=>absurd h (by decide),fun h=>absurd h HN.o⟩,gd⟩)
  
end Go.Proofs.YtleafadpfeibfaaGreat
