/- Contracts and laws towards ReadsOf, part 28 of 54. No condition. -/
import Derived.Test.YtleafadpfeibfaaGreatRx24
import Derived.Test.YtleafadpfeibfaaGreatRx26
set_option maxHeartbeats 32000000
set_option maxRecDepth 10000
set_option linter.unusedVariables false
set_option linter.unusedSimpArgs false
namespace Go.Proofs.YtleafadpfeibfaaGreat
open Go.RowKit
variable{d:Nat}
variable{fg fr fx:List Nat}{cg cr cx:Array Value}{n:Nat}
theorem rU(fp:List Nat)(cs:Array Value)(x:aA d)(w:World)(Z:Rd.rd fp w cs.toList x)(hl:aS x≤1048576):Qz 263 #[.agg cs] w (.bool (pB (Da x))):=by
 obtain⟨q0,q1,q2,q3,q4,q5,q6,O,T,ak,rfl,rfl,-,au,ax,ay,aZ,bg,bq,bB,ai,aj⟩:=KU Z;have HX:=Kz Z;clear Z;have HL:=Kz hl;have U:=Eb (d+1) (q0,q1,q2,q3,q4,q5,q6);have V:=AQ (d+1) (q0,q1,q2,q3,q4,q5,q6)
 have X:iP (d+1) (q0,q1,q2,q3,q4,q5,q6)≤2097152:=by
  have h1:iP (d+1) (q0,q1,q2,q3,q4,q5,q6)≤aS ((q0,q1,q2,q3,q4,q5,q6):aA d)+1:=U;omega
 have Y:cZ (d+1) (q0,q1,q2,q3,q4,q5,q6)≤2097152:=by
  have h1:cZ (d+1) (q0,q1,q2,q3,q4,q5,q6)≤aS ((q0,q1,q2,q3,q4,q5,q6):aA d)+1:=V;omega
 have ae:=Kz X;have ah:=Kz Y;obtain⟨D,hD⟩:=nm (iP (d+1) (q0,q1,q2,q3,q4,q5,q6));obtain⟨C,hC⟩:=nm (cZ (d+1) (q0,q1,q2,q3,q4,q5,q6));have HD:=Kz hD;have HC:=Kz hC;clear hl U X hD hC V Y;delta Qz;go_in;go_wp2_with fail;generalize I:w.alloc (.cells #[.int .i64 q0,.int .i64 q1,.int .i64 q2,.int .i64 q3,.string q4,.string q5,.slice O q6.length T] 165)=B;have gB:Gr w B:=gb I;have b0:B.cell? ⟨w.heap.size,0,none⟩=some (.int .i64 q0):=by rw[←I];exact aJ rfl rfl
 have b1:B.cell? ⟨w.heap.size,1,none⟩=some (.int .i64 q1):=by rw[←I];exact aJ rfl rfl
 have b2:B.cell? ⟨w.heap.size,2,none⟩=some (.int .i64 q2):=by rw[←I];exact aJ rfl rfl
 have b3:B.cell? ⟨w.heap.size,3,none⟩=some (.int .i64 q3):=by rw[←I];exact aJ rfl rfl
 have b4:B.cell? ⟨w.heap.size,4,none⟩=some (.string q4):=by rw[←I];exact aJ rfl rfl
 have b5:B.cell? ⟨w.heap.size,5,none⟩=some (.string q5):=by rw[←I];exact aJ rfl rfl
 have b6:B.cell? ⟨w.heap.size,6,none⟩=some (.slice O q6.length T):=by rw[←I];exact aJ rfl rfl
 have q:=Kz gB;have J:=Kz (And.intro b0 (And.intro b1 (And.intro b2 (And.intro b3 (And.intro b4 (And.intro b5 b6))))));clear I gB b0 b1 b2 b3 b4 b5 b6;have K:=Kz (Gr.refl B);have y0:=K.o.keep J.o.1;have y1:=K.o.keep J.o.2.1;have y2:=K.o.keep J.o.2.2.1;have y3:=K.o.keep J.o.2.2.2.1;have y4:=K.o.keep J.o.2.2.2.2.1;have y5:=K.o.keep J.o.2.2.2.2.2.1;have y6:=K.o.keep J.o.2.2.2.2.2.2;have zy:=blk y0;refine(rC (qj d) _ _ (q0,q1,q2,q3,q4,q5,q6) _ (Rd.gr HX.o q.o) ah.o).mono ?_;rintro e w' ⟨rfl,x1,rfl⟩;rw[←HC.o]
 by_cases h0:(C:Int)≤24
 ·go_wp2_with fail
  refine(rY (qh d) _ _ (q0,q1,q2,q3,q4,q5,q6) _ (Rd.gr HX.o (tg q)) ae.o).mono ?_;rintro e w' ⟨rfl,x2,rfl⟩;rw[←HD.o]
  by_cases h6:(D:Int)≤6
  ·go_wp2_with fail
   refine(wT (sV (fun{d} (y:aA d)=>jJ y) d) _ _ (q0,q1,q2,q3,q4,q5,q6) 278 #[] _ ⟨Tryz.call278,fun y W hg fp cs hr hw=>Bw fp cs y W hr hw⟩ (Rd.gr HX.o (tg q)) HL.o).mono ?_;rintro e w' ⟨rfl,x3,rfl⟩;go_wp2_with fail;go_ret;refine⟨aa (iO ⟨fun h=>h.2.2,fun h=>⟨?_,?_,h⟩⟩).symm,q.o.trans gd⟩
   ·rw[←HC.o];omega
   ·rw[←HD.o];omega
  ·go_wp2_with fail
   go_ret;exact⟨aa (bV fun h=>by have h1:=h.2.1;rw[←HD.o] at h1;omega).symm,q.o.trans gd⟩
 ·go_wp2_with fail
  go_ret;exact⟨aa (bV fun h=>by have h1:=h.1;rw[←HC.o] at h1;omega).symm,q.o.trans gd⟩
theorem FI(fp:List Nat)(cs:Array Value)(x:aA d)(n:Int)(b:Nat)(w:World)(h:Rd.rd fp w cs.toList x)(hb:w.cell? ⟨b,0,none⟩=some (.int .i64 n)):Qz 264 #[.agg cs,.pointer (some ⟨b,0,none⟩)] w (.bool (pB (x.2.2.1≤n))):=by
 obtain⟨q0,q1,q2,q3,q4,q5,q6,D,I,J,rfl,rfl,-,K,O,T,U,V,X,Y,q,B⟩:=KU h;clear h;have Z:=blk hb;delta Qz;go_in;go_wp2_with fail;go_ret;exact⟨aa (lZ Iff.rfl).symm,gd⟩
theorem jH(fp:List Nat)(cs:Array Value)(x:aA d)(n:Int)(w:World)(K:Rd.rd fp w cs.toList x)(T:aS x≤1048576):Qz 242 #[.agg cs,.int .i64 n] w (.bool (pB (ko n x))):=by
 have U:=Kz T;obtain⟨q0,q1,q2,q3,q4,q5,q6,I,J,ah,rfl,rfl,-,ai,aj,ak,au,ax,ay,aZ,Z,ae⟩:=KU K;have V:=Kz K;clear K;clear T;delta Qz;go_in;go_wp2_with fail;generalize D:(w.alloc (.cells #[.int .i64 q0,.int .i64 q1,.int .i64 q2,.int .i64 q3,.string q4,.string q5,.slice I q6.length J] 165)).alloc (.cells #[.int .i64 n] 3)=B;have X:Gr w B:=gb D;have VX:=Kz (show az B w.heap.size 165 [.int .i64 q0,.int .i64 q1,.int .i64 q2,.int .i64 q3,.string q4,.string q5,.slice I q6.length J] from by rw[←D];exact(az.new (A:=w) rfl).gr gd);have VN:=Kz (show az B (w.heap.size+1) 3 [.int .i64 n] from by rw[←D];exact az.new (by simp));have q:=Kz X;clear D X;refine(rU _ _ (q0,q1,q2,q3,q4,q5,q6) _ (Rd.gr V.o q.o) U.o).mono ?_;rintro e w' ⟨rfl,x1,rfl⟩
 by_cases hv:Da ((q0,q1,q2,q3,q4,q5,q6):aA d)
 ·rw[bQ hv]
  have O:=Kz hv;have g1:Gr B (B.ext x1):=gd;have Y:=VX.o.gr g1;obtain⟨y0,y1,y2,y3,y4,y5,y6⟩:=Y.c7;clear hv g1 Y;go_wp2_with fail;refine(wT (sV (fun{d} (y:aA d)=>y.2.2.1≤n) d) _ _ (q0,q1,q2,q3,q4,q5,q6) 264 #[.pointer (some ⟨w.heap.size+1,0,none⟩)] _ ⟨Tryz.call264,fun y W hg fp cs hr hw=>FI fp cs y n _ W hr (((VN.o.gr gd).gr hg).c 0)⟩ (Rd.gr V.o (tg q)) U.o).mono ?_;rintro e w' ⟨rfl,x2,rfl⟩;go_wp2_with fail;go_ret;exact⟨aa (iO ⟨fun h=>h.2,fun h=>⟨O.o,h⟩⟩).symm,q.o.trans gd⟩
 ·rw[bV hv]
  have O:=Kz hv;clear hv;go_wp2_with fail;go_ret;exact⟨aa (bV fun h=>O.o h.1).symm,q.o.trans gd⟩
theorem yA(fp:List Nat)(cs:Array Value)(x:aQ)(w:World)(q:Rd.rd fp w cs.toList x)(B:bI x≤1048576):Qz 238 #[.agg cs] w (.bool (pB (pW x))):=by
 rw[←Aj];obtain⟨R,h⟩:=nm (xA (pB (dh x.1)) x.2.1 x.2.2.1 x.2.2.2);rw[←h];have D:=Kz h;clear h;obtain⟨q0,q1,q2,q3⟩:=x;obtain⟨rfl,-,-,-,-⟩:=aR (cs:=cs) q0 q1 q2 q3 q;have I:q0.size≤2097152:=by have:q0.size≤1048576:=B;omega
 clear B q;delta Qz;go_in
 go_wp2_with (first|(go_at_call 137;refine(di _ _ _ _).mono ?_;rintro e w' ⟨rfl,rfl⟩)|(go_at_call 259;refine(lY _ _).mono ?_;rintro e w' ⟨rfl,J,rfl⟩)|(go_at_call 240;refine(bG _ I _).mono ?_;rintro e w' ⟨rfl,K,rfl⟩))
 go_ways
 all_goals
  go_ret;refine⟨aa ?_,gd⟩;rw[D.o];unfold xA;clear D
  first|(simp_all;done)|(simp_all;intros;omega)|(cases q3<;>simp_all<;>intros<;>omega)
theorem Hd(fp:List Nat)(cs:Array Value)(x:aQ)(s:ByteArray)(b:Nat)(w:World)(q:Rd.rd fp w cs.toList x)(hb:w.cell? ⟨b,0,none⟩=some (.string s)):Qz 239 #[.agg cs,.pointer (some ⟨b,0,none⟩)] w (.bool (decide (x.1=s))):=by
 obtain⟨q0,q1,q2,q3⟩:=x;obtain⟨rfl,-,-,-,-⟩:=aR (cs:=cs) q0 q1 q2 q3 q;have B:=blk hb;clear q;delta Qz;go_in;go_wp2_with fail;go_ret;refine⟨aa ?_,gd⟩
 by_cases h:q0=s
 ·rw[decide_eq_true h,h];simp
 ·rw[decide_eq_false h,beq_eq_false_iff_ne.2 fun e=>h (str_inj e)]
theorem lM{p:Prop}(h:pB p=false):¬p:=fun k=>by rw[bQ k] at h;cases h
theorem Aq{α:Type}{f:α→ByteArray}{xs:List α}{s:ByteArray}:(xs.any fun a=>decide (f a=s))=pB (s∈xs.map f):=by
 rw[Bool.eq_iff_iff,dx,List.any_eq_true,List.mem_map];constructor
 ·rintro⟨x,h1,h⟩;exact⟨x,h1,of_decide_eq_true h⟩
 ·rintro⟨x,h1,h⟩;exact⟨x,h1,decide_eq_true h⟩
theorem Dt(fs:List Nat)(cs:Array Value)(s:bC)(w:World)(hs:Rd.rd fs w cs.toList s)(hl:bM s≤1048576):Qz 208 #[.agg cs] w (.bool (pB (Dv s))):=by
  obtain⟨T,s1,ae,ah,cO,rfl,rfl,-,dB,U,cB,cK⟩:=Lg hs;have ak:=U.op3;clear hs;have ai:T.size+wtL bI s1≤1048576:=hl;have au:T.size≤2097152:=by omega
  have dS:s1.length≤1048576:=by have:=bT bI s1;omega
  have HL:=Kz ai;clear hl ai;delta Qz;go_in;go_wp2_with fail;generalize hB:(w.alloc (.cells #[.string T,.slice ae s1.length ah] 123))=B;have gB:Gr w B:=gb hB;obtain⟨aZ,bg⟩:=kb2 hB (w.heap.size) (.string T) (.slice ae s1.length ah);clear hB
  go_loopw [8] (fun s6 wr=>∃k:Nat,k≤s1.length∧Ky (∀a∈s1.take k,pW a)∧Ky (kM Prod.fst (s1.take k))∧Ky (Gr B wr)∧s6=.int .i64 k) (fun s6 _=>s1.length - (intOf s6).toNat)
  case atStart=>exact⟨0,by omega,Kz (by simp),Kz (by intro i h;simp at h),Kz (Gr.refl _),rfl⟩
  case round=>
    obtain⟨k,hk,HA,HD,Z,rfl⟩:=hrel
    rename World=>W1
    have y0:=aZ _ Z.o;have K:=bg _ Z.o;have aj:=blk K;have V:=gB.trans Z.o;have D:=Kz V
    by_cases q:k<s1.length
    · have bq:=dI bI s1 q
      have bB:=Kz (show bI s1[k]≤1048576 by have:=HL.o;omega);have bH:=Kz (fun h=>dD q HA.o h);have bL:=Kz (lK q HD.o);have bR:=Kz (oC (f:=Prod.fst) (xs:=s1) q);have ax:=Kz (List.getElem_mem q);obtain⟨dV,X,-⟩:=U.pre hk;have ay:=Kz (X.gr D.o);clear bq X;obtain⟨b,off,rfl,fe⟩:=ak k q;obtain⟨q0,q1,q2,q3,I,bX,fu,gD,gF,gT,gV,gX,ik,kr⟩:=K5 U q V;have k0:(0:Int)≤(k:Int):=by omega
      have k1:(k:Int)<(s1.length:Int):=by omega
      have iw:=zI1 k (by omega);clear V;go_wp2_with fail;generalize hC:(W1.alloc (.cells #[.string q0,.int .i64 q1,.int .i64 q2,.bool q3] 144))=C;have gC:Gr W1 C:=gb hC;have VC:=Kz (show az C W1.heap.size 144 [.string q0,.int .i64 q1,.int .i64 q2,.bool q3] from by rw[←hC];exact az.new rfl);replace K:=gC.keep K;replace aj:=blk K;have J:=Kz gC;clear hC gC y0;refine(yA _ _ (q0,q1,q2,q3) _ (Rd.gr bX.o (D.o.trans J.o)) (by rw[I.o];exact bB.o)).mono ?_;rintro e w' ⟨rfl,x1,rfl⟩
      by_cases O:pW (q0,q1,q2,q3)
      · rw[bQ O]
        have HP:=Kz O;clear O;replace K:=(show Gr C (C.ext x1) from gd).keep K;replace aj:=blk K
        have HT:=Kz (show TestAttribute (C.ext x1) 239 #[.pointer (some ⟨W1.heap.size,0,none⟩)] (fun a=>decide (a.1=q0)) (s1.take k) from
          ⟨Tryz.call239,fun z _ x fp cs hr=>Hd fp cs z q0 _ _ hr ((VC.o.gr gd).c 0)⟩)
        go_wp2_with (first|(go_at_call 172;refine(gW _ _ (s1.take k) _ _ (fun a=>decide (a.1=q0)) _ (ay.o.gr (tg J)) HT.o).mono ?_;rintro e w' ⟨rfl,x2,rfl⟩;rw[Aq]))
        go_ways
        all_goals first
          | (have Y:q0∈List.take k (List.map Prod.fst s1):=dx.1 ‹_›
             have hm:q0∈(s1.take k).map Prod.fst:=by rw[List.map_take];exact Y
             go_ret;exact⟨aa (bV fun h=>bR.o (by rw[←I.o];exact hm) h.2.2.2).symm,D.o.trans (tg J)⟩)
          | (have Y:¬(q0∈List.take k (List.map Prod.fst s1)):=lM ‹_›
             have hm:¬(q0∈(s1.take k).map Prod.fst):=by rw[List.map_take];exact Y
             exact⟨⟨k+1,by omega,Kz (bH.o (by rw[←I.o];exact HP.o)),Kz (bL.o (by rw[←I.o];exact hm)),Kz (Z.o.trans (tg J)),by go_num⟩,by simp[intOf];omega⟩)
         
      · rw[bV O]
        have HP:=Kz O;clear O;go_wp2_with fail;go_ret;exact⟨aa (bV fun h=>HP.o (by rw[I.o];exact h.2.2.1 _ ax.o)).symm,D.o.trans (tg J)⟩
    · obtain rfl:k=s1.length:=by omega
      rw[List.take_length] at HA HD;go_wp2_with fail;refine(bG _ au _).mono ?_;rintro e w' ⟨rfl,x1,rfl⟩
      by_cases hn:dh T
      · rw[bQ hn]
        have HN:=Kz hn;clear hn;go_wp2_with fail;go_ret;exact⟨aa (lZ ⟨fun h=>by have:s1.length≤4:=h.2.1;omega,fun h=>⟨HN.o,by show s1.length≤4;omega,HA.o,HD.o⟩⟩).symm,D.o.trans gd⟩
      · rw[bV hn]
        have HN:=Kz hn;clear hn;go_wp2_with fail;go_ret;exact⟨aa (bV fun h=>HN.o h.1).symm,D.o.trans gd⟩
def nV(g:af d)(r:aW d):Prop:=∀p:Nat,p≤r.2.2.1.length→(bW g.1 (j6 r (p:Int))).isSome=true
def Ez(W:World)(b:Bool)(s:Value)(wr:World):Prop:=s=.bool b∧Gr W wr
set_option maxRecDepth 100000 in
theorem yx(g:af d)(r:aW d)(w:World)(hg:Rd.rd fg w cg.toList g)(hr:Rd.rd fr w cr.toList r)(hl:aP g≤1048576)(hn:r.2.2.1.length≤1048576):
  Qz 194 #[.agg cg,.agg cr] w (.bool (pB (nV g r))):=by
 have aZ:=Kz hl;clear hl;have HG:=Kz hg;obtain⟨g0,g1,ag0,kg0,o9,ag1,kg1,qb,rfl,rfl,-,q8,gD,gF,q,gT,gV⟩:=yt hg;clear hg;have HR:=Kz hr;obtain⟨I,J,D,K,O,T,ae,ah,q9,ai,aj,sO,ak,au,uf,rfl,rfl,-,uo,uq,uz,gX,ik,u6,iw,kr,ve,ku,ky⟩:=KV hr;clear hr;have vB:D.length≤1048576:=hn;have vD:IntKind.i64.wrap ((D.length:Int)+1)=(D.length:Int)+1:=IntWalk.i64_in _ (by omega);clear hn;delta Qz;go_in;go_wp2_with fail;generalize hB:((w.alloc (.cells #[.slice ag0 g0.length kg0,.slice ag1 g1.length kg1] 39)).alloc (.cells #[.string I,.string J,.slice ae D.length ah,.bool K,.slice ai O.length aj,.slice ak T.length au] 128))=B;have gB:Gr w B:=gb hB;obtain⟨bg,bq⟩:=kb2 hB (w.heap.size) (.slice ag0 g0.length kg0) (.slice ag1 g1.length kg1);obtain⟨bB,bH,bL,bR,bX,cB⟩:=kb6 hB (w.heap.size+1) (.string I) (.string J) (.slice ae D.length ah) (.bool K) (.slice ai O.length aj) (.slice ak T.length au);clear hB
 go_loopw [5] (fun s8 wr=>∃(p:Nat),p≤D.length+1∧Ky (∀k:Nat,k<p→(bW g0 (j6 (I,J,D,K,O,T) (k:Int))).isSome=true)∧Gr B wr∧s8=.int .i64 p) (fun s8 _=>D.length+1 - (intOf s8).toNat)
 case atStart=>exact⟨0,by omega,Kz (by intro k hk;omega),gd,rfl⟩
 case round=>
  obtain⟨p,hp,HK,q,rfl⟩:=hrel
  rename World=>W1
  have cK:=Kz q;have y0:=bg _ q;have y1:=bq _ q;have y2:=bB _ q;have y3:=bH _ q;have y4:=bL _ q;have y5:=bR _ q;have y6:=bX _ q;have y7:=cB _ q;have ax:=gB.trans q;have U:=Kz ax
  by_cases cO:p≤D.length
  ·have lq:(p:Int)≤(D.length:Int):=by omega
   have oH:(p:Int)<(D.length:Int)+1:=by omega
   have p0:(0:Int)≤(p:Int):=by omega
   have vF:=zI1 p (by omega);obtain⟨S,hS⟩:=nm (j6 (I,J,D,K,O,T) (p:Int));have V:=Kz hS;obtain⟨R,hR⟩:=nm ((bW g0 S).isSome);have X:=Kz hR;clear hS hR
   go_upto_region 4 with fail
   have dB:=fun(w':World) (h:Gr W1 w')=>(⟨h.keep y0,h.keep y1,h.keep y2,h.keep y3,h.keep y4,h.keep y5,h.keep y6,h.keep y7⟩:_∧_∧_∧_∧_∧_∧_∧_)
   clear ax
   go_cut [7] (fun sp wx=>Ez W1 R sp wx)
   case first=>
    go_region_held3 (fun w'=>Gr W1 w') (exact ga)
     (first|(go_at_call 158;refine(iG (I,J,D,K,O,T) (p:Int) _ (Rd.gr HR.o (U.o.trans ga))).mono ?_;rintro e w' ⟨rfl,x2,rfl⟩;rw[←V.o])|(go_at_call 85;refine(dX (g0,g1) S _ (Rd.gr HG.o (U.o.trans ga)) aZ.o).mono ?_;rintro e w' ⟨es,fq,rfl,hr,dS,x3,rfl⟩;obtain⟨s0,s1,vG,vL,vO,Y,rfl,-,vR,vX,oL,o5⟩:=Lg (x:=(bW g0 S).getD dE) hr;have wF:=Kz Y;have wL:=Lt Y hr;clear hr Y;obtain⟨bb,Z⟩:∃b:Bool,b=(bW g0 S).isSome:=⟨_,rfl⟩;rw[←Z];have dV:=Kz Z;clear Z;clear dS))
    all_goals
     go_wp2_with fail;go_meet;have hb:bb=R:=dV.o.trans X.o.symm;subst hb;exact⟨rfl,gd⟩
   case rest=>
    obtain⟨rfl,g2⟩:=hcut
    rename World=>W2
    have fe:=Kz (cK.o.trans g2);have ay:=Kz (U.o.trans g2);clear dB y0 y1 y2 y3 y4 y5 y6 y7 g2
    cases R with
    |true=>
     go_wp2_with fail;refine⟨⟨p+1,by omega,Kz fun k hk=>?_,fe.o,by go_num⟩,by simp[intOf];omega⟩
     by_cases fu:k<p
     ·exact HK.o k fu
     ·obtain rfl:k=p:=by omega
      rw[←V.o];exact X.o.symm
    |false=>
     go_wp2_with fail;go_ret;exact⟨aa (by rw[bV (show¬nV (g0,g1) (I,J,D,K,O,T) from fun h=>by have h1:=h p cO;rw[←V.o] at h1;exact absurd (X.o.trans h1) (by decide))];try rfl),ay.o⟩
  ·have w9:p=D.length+1:=by omega
   go_wp2_with fail;go_ret;exact⟨aa (by rw[bQ (show nV (g0,g1) (I,J,D,K,O,T) from fun k hk=>HK.o k (by have:k≤D.length:=hk;omega))];try rfl),U.o⟩
def xD(g:af d)(s n:ByteArray):Int:=pO (ek ((bW g.1 s).getD dE).2 n)
theorem uJ(g:af d)(s n:ByteArray)(w:World)(hg:Rd.rd fg w cg.toList g)(q:aP g≤1048576):
  Qz 157 #[.agg cg,.string s,.string n] w (.int .i64 (xD g s n)):=by
 have V:=Kz q;clear q;have HG:=Kz hg;obtain⟨g0,g1,ag0,kg0,bq,ag1,kg1,bB,rfl,rfl,-,bH,ak,au,bL,ax,ay⟩:=yt hg;clear hg;obtain⟨Y,B⟩:=nm ((bW g0 s).getD dE);obtain⟨R,T⟩:=nm (xD (g0,g1) s n);rw[←T];have U:=Kz (show R=pO (ek Y.2 n) by rw[T,B];rfl);have X:=Kz B;clear T B;delta Qz;go_in;go_wp2_with fail;refine(dX (g0,g1) s _ (Rd.gr HG.o gd) V.o).mono ?_;rintro e w' ⟨es,fq,rfl,hr,-,x1,rfl⟩;obtain⟨Z,s1,bR,bX,cB,D,rfl,-,cK,cO,aZ,bg⟩:=Lg (x:=(bW g0 s).getD dE) hr;have ae:=Kz D;have ah:=Lt D hr;clear hr D;obtain⟨bb,I⟩:∃b:Bool,b=(bW g0 s).isSome:=⟨_,rfl⟩;rw[←I];have dB:=Kz I;clear I;have B:Y=(Z,s1):=X.o.trans ae.o.symm;subst B;go_wp2_with fail;refine(jC (Z,s1) n _ (Rd.gr ah.o gd)).mono ?_;rintro e w' ⟨es,fq,rfl,hr,-,x2,rfl⟩;obtain⟨t0,t1,t2,t3,J,rfl,-,dS,dV,fe⟩:=Ld (x:=(ek s1 n).getD dR) hr;have O:=Kz J;have fu:=Lt J hr;clear hr J;obtain⟨cc,K⟩:∃b:Bool,b=(ek s1 n).isSome:=⟨_,rfl⟩;rw[←K];have ai:=Kz K;clear K;have HT:=Kz (show R=t1 by rw[U.o];unfold pO;rw[←O.o])
 have aj:=Kz (show cc=false→t1=0 from fun h=>by
  have h1:=ai.o;rw[h] at h1;have h2:=O.o
  cases q:ek s1 n with
  |none=>rw[q] at h2;exact congrArg (fun a:aQ=>a.2.1) h2
  |some a=>rw[q] at h1;cases h1)
 cases cc with
 |true=>
  go_wp2_with fail;go_ret;exact⟨by rw[HT.o];rfl,gd⟩
 |false=>
  go_wp2_with fail;go_ret;exact⟨by rw[HT.o,aj.o (by simp)];rfl,gd⟩
def TyC(g:af d)(r:aW d)(n:Nat):Prop:=∀(fg fr fx:List Nat) (cg cr cx:Array Value) (x:GE n) (w:World) (hg:Rd.rd fg w cg.toList g) (hr:Rd.rd fr w cr.toList r) (h:Rd.rd fx w cx.toList x),
 Calls Tryz.prog 156 #[.agg cg,.agg cr,.agg cx] w fun e w'=>e=.returned (.int .i64 (dZ g r n x))∧Gr w w'
def KO(g:af d)(r:aW d){n:Nat}(q1:Int)(q6:List (GE n)):Int:=match q6 with|[a,b]=>if dZ g r n a=(opT q1).1∧dZ g r n b=(opT q1).2.1 then(opT q1).2.2 else 0|_=>0
def KN(g:af d)(r:aW d){n:Nat}(q6:List (GE n)):Int:=match q6 with|[a,b,c]=>if dZ g r n a=3∧dZ g r n b=dZ g r n c then dZ g r n b else 0|_=>0
theorem vT{g:af d}{r:aW d}(q:TyC g r n)(_:af d:=g)(_:aW d:=r)(x:GE n)(w:World)(hg:Rd.rd fg w cg.toList g)(hr:Rd.rd fr w cr.toList r)(B:Rd.rd fx w cx.toList x){v:Int}(hv:dZ g r n x=v):
  Qz 156 #[.agg cg,.agg cr,.agg cx] w (.int .i64 v):=by
 have h:=q fg fr fx cg cr cx x w hg hr B;rw[hv] at h;exact h
theorem CY(g:af d)(r:aW d)(x:aA n)(w:World)(hE:TyC g r n)(hg:Rd.rd fg w cg.toList g)(hr:Rd.rd fr w cr.toList r)(hx:Rd.rd fx w cx.toList x):
  Qz 198 #[.agg cg,.agg cr,.agg cx] w (.int .i64 (KO g r x.2.1 x.2.2.2.2.2.2)):=by
 have HG:=Kz hg;obtain⟨g0,g1,ag0,kg0,zb,ag1,kg1,ze,rfl,rfl,-,zf,vO,vR,zg,vX,wF⟩:=yt hg;clear hg;have HR:=Kz hr;obtain⟨D,I,J,K,O,U,ax,ay,zl,aZ,bg,zn,bq,bB,zo,rfl,rfl,-,zq,zu,zx,wL,w9,zy,xc,x9,zH,yc,yu⟩:=KV hr;clear hr;obtain⟨q0,q1,q2,q3,q4,q5,q6,ae,ah,zL,rfl,rfl,-,zO,z8,A7,BM,EB,E5,gV,y5,y7⟩:=KU hx;have oH:=gV.op3;have gX:=Kz gV;clear hx
 show Calls _ _ _ _ fun e w'=>e=.returned (.int .i64 (KO (g0,g1) (D,I,J,K,O,U) q1 q6))∧Gr w w'
 have HE:=Kz hE;clear hE;obtain⟨bH,au⟩:=nm (KO (g0,g1) (D,I,J,K,O,U) q1 q6);rw[←au];have ak:=Kz au;clear au;(try delta Qz);go_in;go_wp2_with fail;refine(uK q1 _).mono ?_;rintro e w' ⟨rfl,x1,rfl⟩;obtain⟨T,hT⟩:=nm (opT q1);rw[←hT];have HT:=Kz hT;obtain⟨T0,T1,T2⟩:=T;simp only;clear hT
 by_cases hlen:q6.length=2
 ·obtain⟨a,c,hq⟩:∃a c,q6=[a,c]:=by
   match q6,hlen with
   |[a,c],_=>exact⟨a,c,rfl⟩
  have FX:(q6.length:Int)=2:=by omega
  have oL:0<q6.length:=by omega
  have o5:1<q6.length:=by omega
  have Ha:=Kz (show q6[0]'(oL)=a by simp[hq]);have Hc:=Kz (show q6[1]'(o5)=c by simp[hq]);have bX:=Kz hq;clear hq hlen
  obtain⟨Z,rfl⟩:∃e,n=e+1:=by
   cases n with
   |zero=>exact PEmpty.elim a
   |succ e=>exact⟨e,rfl⟩
  go_wp2_with fail;generalize Y:((((w.alloc (.cells #[.slice ag0 g0.length kg0,.slice ag1 g1.length kg1] 39)).alloc (.cells #[.string D,.string I,.slice ax J.length ay,.bool K,.slice aZ O.length bg,.slice bq U.length bB] 128)).alloc (.cells #[.int .i64 q0,.int .i64 q1,.int .i64 q2,.int .i64 q3,.string q4,.string q5,.slice ae q6.length ah] 165))).ext x1=B;have gB:Gr w B:=gb Y;have VG:=Kz (show az B w.heap.size 39 [.slice ag0 g0.length kg0,.slice ag1 g1.length kg1] from by rw[←Y];exact kv);have VR:=Kz (show az B (w.heap.size+1) 128 [.string D,.string I,.slice ax J.length ay,.bool K,.slice aZ O.length bg,.slice bq U.length bB] from by rw[←Y];exact kv);have VX:=Kz (show az B (w.heap.size+1+1) 165 [.int .i64 q0,.int .i64 q1,.int .i64 q2,.int .i64 q3,.string q4,.string q5,.slice ae q6.length ah] from by rw[←Y];exact kv);have o9:=Kz (show az B (w.heap.size+2) 165 [.int .i64 q0,.int .i64 q1,.int .i64 q2,.int .i64 q3,.string q4,.string q5,.slice ae q6.length ah] from VX.o);have q:=Kz gB;clear Y gB;obtain⟨b,off,rfl,hb⟩:=oH 0 (by omega);obtain⟨cB,ik,V,ai,-⟩:=gX.o.at (i:=0) (by omega);have ai:Rd.rd (α:=aA Z) ik w cB a:=by rw[←Ha.o];exact ai
  obtain⟨yp,hyp⟩:∃y:aA Z,y=a:=⟨_,rfl⟩;rw[←hyp] at ai;have cK:=Kz hyp;have cO:=Kz ai;obtain⟨p0,p1,p2,p3,p4,p5,p6⟩:=yp;obtain⟨F4,F5,dB,-,-,-,-,-,-,-,iw⟩:=aF (cs:=cB.toArray) p0 p1 p2 p3 p4 p5 p6 (show Rd.rd (α:=aA Z) ik w cB.toArray.toList _ from ai);obtain rfl:=toL dB;obtain⟨qb,q8,rfl,-,-,-⟩:=iw.open;have q9:=q.o.keep (show w.cell? ⟨b,off,none⟩=some (.int .i64 p0) from by simpa[Rd.n] using V 0 _ rfl);have F6:=q.o.keep (show w.cell? ⟨b,off+1,none⟩=some (.int .i64 p1) from by simpa[Rd.n] using V 1 _ rfl);have F8:=q.o.keep (show w.cell? ⟨b,off+2,none⟩=some (.int .i64 p2) from by simpa[Rd.n] using V 2 _ rfl);have He:=q.o.keep (show w.cell? ⟨b,off+3,none⟩=some (.int .i64 p3) from by simpa[Rd.n] using V 3 _ rfl);have HV:=q.o.keep (show w.cell? ⟨b,off+4,none⟩=some (.string p4) from by simpa[Rd.n] using V 4 _ rfl);have HY:=q.o.keep (show w.cell? ⟨b,off+5,none⟩=some (.string p5) from by simpa[Rd.n] using V 5 _ rfl);have HZ:=q.o.keep (show w.cell? ⟨b,off+6,none⟩=some (.slice qb p6.length q8) from by simpa[Rd.n] using V 6 _ rfl);have H5:=blk q9;clear dB V ai hyp iw;obtain⟨dS,kr,X,aj,-⟩:=gX.o.at (i:=1) (by omega);have aj:Rd.rd (α:=aA Z) kr w dS c:=by rw[←Hc.o];exact aj
  obtain⟨ys,dV⟩:∃y:aA Z,y=c:=⟨_,rfl⟩;rw[←dV] at aj;have fe:=Kz dV;have ku:=Kz aj;obtain⟨s0,s1,s2,s3,s4,s5,s6⟩:=ys;obtain⟨IV,KX,fu,-,-,-,-,-,-,-,ky⟩:=aF (cs:=dS.toArray) s0 s1 s2 s3 s4 s5 s6 (show Rd.rd (α:=aA Z) kr w dS.toArray.toList _ from aj);obtain rfl:=toL fu;obtain⟨sO,uf,rfl,-,-,-⟩:=ky.open;have K3:=q.o.keep (show w.cell? ⟨b,off+7,none⟩=some (.int .i64 s0) from by simpa[Rd.n] using X 0 _ rfl);have K4:=q.o.keep (show w.cell? ⟨b,off+7+1,none⟩=some (.int .i64 s1) from by simpa[Rd.n] using X 1 _ rfl);have K6:=q.o.keep (show w.cell? ⟨b,off+7+2,none⟩=some (.int .i64 s2) from by simpa[Rd.n] using X 2 _ rfl);have La:=q.o.keep (show w.cell? ⟨b,off+7+3,none⟩=some (.int .i64 s3) from by simpa[Rd.n] using X 3 _ rfl);have Li:=q.o.keep (show w.cell? ⟨b,off+7+4,none⟩=some (.string s4) from by simpa[Rd.n] using X 4 _ rfl);have Lj:=q.o.keep (show w.cell? ⟨b,off+7+5,none⟩=some (.string s5) from by simpa[Rd.n] using X 5 _ rfl);have Lm:=q.o.keep (show w.cell? ⟨b,off+7+6,none⟩=some (.slice sO s6.length uf) from by simpa[Rd.n] using X 6 _ rfl);clear fu X aj dV ky;obtain⟨gD,uo⟩:=(VG.o).c2;have uq:=blk gD;obtain⟨gF,uz,u6,ve,vB,vD⟩:=(VR.o).c6;have vF:=blk gF;have gT:=(VX.o).c 0;have vG:=(VX.o).c 6;have vL:=blk gT
  by_cases h1:dZ (g0,g1) (D,I,J,K,O,U) (Z+1) (p0,p1,p2,p3,p4,p5,p6)=T0
  ·by_cases h2:dZ (g0,g1) (D,I,J,K,O,U) (Z+1) (s0,s1,s2,s3,s4,s5,s6)=T1
   ·have H1:=Kz h1
    have H2:=Kz h2
    have HF:=Kz (show bH=T2 by
     rw[ak.o,bX.o]
     show(if _∧_ then _ else _)=_
     rw[←cK.o,←fe.o,←HT.o];exact if_pos ⟨h1,h2⟩)
    clear h1 h2;refine wg ?_
    iterate 26 (go_big_quiet_step (first|(go_at_call_of 156 p0;refine aG (vT HE.o (g0,g1) (D,I,J,K,O,U) (p0,p1,p2,p3,p4,p5,p6) _ (Rd.gr HG.o ?_) (Rd.gr HR.o ?_) (Rd.gr cO.o ?_) H1.o)<;>exact q.o.trans gd)|(go_at_call_of 156 s0;refine aG (vT HE.o (g0,g1) (D,I,J,K,O,U) (s0,s1,s2,s3,s4,s5,s6) _ (Rd.gr HG.o ?_) (Rd.gr HR.o ?_) (Rd.gr ku.o ?_) H2.o)<;>exact q.o.trans gd)))
    refine wq fun nx=>?_
    go_wp2_with fail;go_ret;exact⟨by rw[HF.o];rfl,q.o.trans gd⟩
   ·obtain⟨V2,bL⟩:=nm (dZ (g0,g1) (D,I,J,K,O,U) (Z+1) (s0,s1,s2,s3,s4,s5,s6))
    rw[←bL] at h2;have H1:=Kz h1;have H2:=Kz bL.symm
    have HF:=Kz (show bH=0 by
     rw[ak.o,bX.o]
     show(if _∧_ then _ else _)=_
     rw[←cK.o,←fe.o,←HT.o];exact if_neg fun h=>h2 (bL.trans h.2))
    have Ls:(V2==T1)=false:=by simpa using h2
    clear h1 bL;refine wg ?_
    iterate 26 (go_big_quiet_step (first|(go_at_call_of 156 p0;refine aG (vT HE.o (g0,g1) (D,I,J,K,O,U) (p0,p1,p2,p3,p4,p5,p6) _ (Rd.gr HG.o ?_) (Rd.gr HR.o ?_) (Rd.gr cO.o ?_) H1.o)<;>exact q.o.trans gd)|(go_at_call_of 156 s0;refine aG (vT HE.o (g0,g1) (D,I,J,K,O,U) (s0,s1,s2,s3,s4,s5,s6) _ (Rd.gr HG.o ?_) (Rd.gr HR.o ?_) (Rd.gr ku.o ?_) H2.o)<;>exact q.o.trans gd)))
    refine wq fun nx=>?_
    go_wp2_with fail;go_ret;exact⟨by rw[HF.o];rfl,q.o.trans gd⟩
  ·obtain⟨V1,bR⟩:=nm (dZ (g0,g1) (D,I,J,K,O,U) (Z+1) (p0,p1,p2,p3,p4,p5,p6))
   rw[←bR] at h1;have H1:=Kz bR.symm
   have HF:=Kz (show bH=0 by
    rw[ak.o,bX.o]
    show(if _∧_ then _ else _)=_
    rw[←cK.o,←fe.o,←HT.o];exact if_neg fun h=>h1 (bR.trans h.1))
   have y8:(V1 !=T0)=true:=by simpa using h1
   clear bR;refine wg ?_
   iterate 26 (go_big_quiet_step ((go_at_call_of 156 p0;refine aG (vT HE.o (g0,g1) (D,I,J,K,O,U) (p0,p1,p2,p3,p4,p5,p6) _ (Rd.gr HG.o ?_) (Rd.gr HR.o ?_) (Rd.gr cO.o ?_) H1.o)<;>exact q.o.trans gd)))
   refine wq fun nx=>?_
   go_wp2_with fail;go_ret;exact⟨by rw[HF.o];rfl,q.o.trans gd⟩
 ·have lq:¬((q6.length:Int)=2):=by omega
  have y9:((q6.length:Int)==2)=false:=by simpa using lq
  have za:((q6.length:Int)!=2)=true:=by simpa using lq
  have HF:=Kz (show bH=0 from by
   rw[ak.o];unfold KO
   split
   ·simp at hlen
   ·rfl)
  clear hlen;go_wp2_with fail;generalize Y:((((w.alloc (.cells #[.slice ag0 g0.length kg0,.slice ag1 g1.length kg1] 39)).alloc (.cells #[.string D,.string I,.slice ax J.length ay,.bool K,.slice aZ O.length bg,.slice bq U.length bB] 128)).alloc (.cells #[.int .i64 q0,.int .i64 q1,.int .i64 q2,.int .i64 q3,.string q4,.string q5,.slice ae q6.length ah] 165))).ext x1=B;have gB:Gr w B:=gb Y;have VG:=Kz (show az B w.heap.size 39 [.slice ag0 g0.length kg0,.slice ag1 g1.length kg1] from by rw[←Y];exact kv);have VR:=Kz (show az B (w.heap.size+1) 128 [.string D,.string I,.slice ax J.length ay,.bool K,.slice aZ O.length bg,.slice bq U.length bB] from by rw[←Y];exact kv);have VX:=Kz (show az B (w.heap.size+1+1) 165 [.int .i64 q0,.int .i64 q1,.int .i64 q2,.int .i64 q3,.string q4,.string q5,.slice ae q6.length ah] from by rw[←Y];exact kv);have o9:=Kz (show az B (w.heap.size+2) 165 [.int .i64 q0,.int .i64 q1,.int .i64 q2,.int .i64 q3,.string q4,.string q5,.slice ae q6.length ah] from VX.o);have q:=Kz gB;clear Y gB;obtain⟨gD,uo⟩:=(VG.o).c2;have uq:=blk gD;obtain⟨gF,uz,u6,ve,vB,vD⟩:=(VR.o).c6;have vF:=blk gF;have gT:=(VX.o).c 0;have vG:=(VX.o).c 6;have vL:=blk gT;refine wg ?_
  iterate 26 (go_big_quiet_step (fail))
  refine wq fun nx=>?_
  go_wp2_with fail;go_ret;exact⟨by rw[HF.o];rfl,q.o.trans gd⟩
theorem Cv(g:af d)(r:aW d)(x:aA n)(w:World)(hE:TyC g r n)(hg:Rd.rd fg w cg.toList g)(hr:Rd.rd fr w cr.toList r)(hx:Rd.rd fx w cx.toList x):
  Qz 199 #[.agg cg,.agg cr,.agg cx] w (.int .i64 (KN g r x.2.2.2.2.2.2)):=by
 have HG:=Kz hg;obtain⟨g0,g1,ag0,kg0,LD,ag1,kg1,LF,rfl,rfl,-,LG,KX,K3,LH,K4,K6⟩:=yt hg;clear hg;have HR:=Kz hr;obtain⟨V,X,Y,Z,r4,r5,vR,vX,LJ,wF,wL,LK,w9,xc,LM,rfl,rfl,-,LP,LQ,LU,La,Li,LV,Lj,Lm,LW,Ls,Lv⟩:=KV hr;clear hr;obtain⟨q0,q1,q2,q3,q4,q5,q6,ku,ky,LX,rfl,rfl,-,LY,LZ,L6,L8,L9,Ma,x9,Lx,LA⟩:=KU hx;have zH:=x9.op3;have lq:=Kz x9;clear hx
 show Calls _ _ _ _ fun e w'=>e=.returned (.int .i64 (KN (g0,g1) (V,X,Y,Z,r4,r5) q6))∧Gr w w'
 have HE:=Kz hE;clear hE;obtain⟨yc,fu⟩:=nm (KN (g0,g1) (V,X,Y,Z,r4,r5) q6);rw[←fu];have oH:=Kz fu;clear fu;(try delta Qz);go_in;go_wp2_with fail;generalize hB:((((w.alloc (.cells #[.slice ag0 g0.length kg0,.slice ag1 g1.length kg1] 39)).alloc (.cells #[.string V,.string X,.slice vR Y.length vX,.bool Z,.slice wF r4.length wL,.slice w9 r5.length xc] 128)).alloc (.cells #[.int .i64 q0,.int .i64 q1,.int .i64 q2,.int .i64 q3,.string q4,.string q5,.slice ku q6.length ky] 165)))=B;have gB:Gr w B:=gb hB;have VG:=Kz (show az B w.heap.size 39 [.slice ag0 g0.length kg0,.slice ag1 g1.length kg1] from by rw[←hB];exact kv);have VR:=Kz (show az B (w.heap.size+1) 128 [.string V,.string X,.slice vR Y.length vX,.bool Z,.slice wF r4.length wL,.slice w9 r5.length xc] from by rw[←hB];exact kv);have VX:=Kz (show az B (w.heap.size+1+1) 165 [.int .i64 q0,.int .i64 q1,.int .i64 q2,.int .i64 q3,.string q4,.string q5,.slice ku q6.length ky] from by rw[←hB];exact kv);have y5:=Kz (show az B (w.heap.size+2) 165 [.int .i64 q0,.int .i64 q1,.int .i64 q2,.int .i64 q3,.string q4,.string q5,.slice ku q6.length ky] from VX.o);have q:=Kz gB;clear hB gB
 by_cases hlen:q6.length=3
 ·obtain⟨a,c,e,hq⟩:∃a c e,q6=[a,c,e]:=by
   match q6,hlen with
   |[a,c,e],_=>exact⟨a,c,e,rfl⟩
  have Mc:(q6.length:Int)=3:=by omega
  have zO:0<q6.length:=by omega
  have z8:1<q6.length:=by omega
  have gD:2<q6.length:=by omega
  have Ha:=Kz (show q6[0]'(zO)=a by simp[hq]);have Hc:=Kz (show q6[1]'(z8)=c by simp[hq]);have He:=Kz (show q6[2]'(gD)=e by simp[hq]);have A7:=Kz hq;clear hq hlen
  obtain⟨n1,rfl⟩:∃m,n=m+1:=by
   cases n with
   |zero=>exact PEmpty.elim a
   |succ m=>exact⟨m,rfl⟩
  obtain⟨b,off,rfl,hb⟩:=zH 0 (by omega);obtain⟨oL,y7,O,ah,-⟩:=lq.o.at (i:=0) (by omega);have ah:Rd.rd (α:=aA n1) y7 w oL a:=by rw[←Ha.o];exact ah
  obtain⟨yp,hyp⟩:∃y:aA n1,y=a:=⟨_,rfl⟩;rw[←hyp] at ah;have BM:=Kz hyp;have y8:=Kz ah;obtain⟨p0,p1,p2,p3,p4,p5,p6⟩:=yp;obtain⟨Md,Me,o5,-,-,-,-,-,-,-,y9⟩:=aF (cs:=oL.toArray) p0 p1 p2 p3 p4 p5 p6 (show Rd.rd (α:=aA n1) y7 w oL.toArray.toList _ from ah);obtain rfl:=toL o5;obtain⟨EB,E5,rfl,-,-,-⟩:=y9.open;have FX:=q.o.keep (show w.cell? ⟨b,off,none⟩=some (.int .i64 p0) from by simpa[Rd.n] using O 0 _ rfl);have Mf:=q.o.keep (show w.cell? ⟨b,off+1,none⟩=some (.int .i64 p1) from by simpa[Rd.n] using O 1 _ rfl);have Mg:=q.o.keep (show w.cell? ⟨b,off+2,none⟩=some (.int .i64 p2) from by simpa[Rd.n] using O 2 _ rfl);have Mh:=q.o.keep (show w.cell? ⟨b,off+3,none⟩=some (.int .i64 p3) from by simpa[Rd.n] using O 3 _ rfl);have Mi:=q.o.keep (show w.cell? ⟨b,off+4,none⟩=some (.string p4) from by simpa[Rd.n] using O 4 _ rfl);have Mj:=q.o.keep (show w.cell? ⟨b,off+5,none⟩=some (.string p5) from by simpa[Rd.n] using O 5 _ rfl);have Mk:=q.o.keep (show w.cell? ⟨b,off+6,none⟩=some (.slice EB p6.length E5) from by simpa[Rd.n] using O 6 _ rfl);have Ml:=blk FX;clear o5 O ah hyp y9;obtain⟨o9,za,T,ai,-⟩:=lq.o.at (i:=1) (by omega);have ai:Rd.rd (α:=aA n1) za w o9 c:=by rw[←Hc.o];exact ai
  obtain⟨ys,qb⟩:∃y:aA n1,y=c:=⟨_,rfl⟩;rw[←qb] at ai;have F4:=Kz qb;have F5:=Kz ai;obtain⟨s0,s1,s2,s3,s4,s5,s6⟩:=ys;obtain⟨Mm,Mo,q8,-,-,-,-,-,-,-,zb⟩:=aF (cs:=o9.toArray) s0 s1 s2 s3 s4 s5 s6 (show Rd.rd (α:=aA n1) za w o9.toArray.toList _ from ai);obtain rfl:=toL q8;obtain⟨F6,F8,rfl,-,-,-⟩:=zb.open;have gF:=q.o.keep (show w.cell? ⟨b,off+7,none⟩=some (.int .i64 s0) from by simpa[Rd.n] using T 0 _ rfl);have ze:=q.o.keep (show w.cell? ⟨b,off+7+1,none⟩=some (.int .i64 s1) from by simpa[Rd.n] using T 1 _ rfl);have zf:=q.o.keep (show w.cell? ⟨b,off+7+2,none⟩=some (.int .i64 s2) from by simpa[Rd.n] using T 2 _ rfl);have zg:=q.o.keep (show w.cell? ⟨b,off+7+3,none⟩=some (.int .i64 s3) from by simpa[Rd.n] using T 3 _ rfl);have zl:=q.o.keep (show w.cell? ⟨b,off+7+4,none⟩=some (.string s4) from by simpa[Rd.n] using T 4 _ rfl);have zn:=q.o.keep (show w.cell? ⟨b,off+7+5,none⟩=some (.string s5) from by simpa[Rd.n] using T 5 _ rfl);have zo:=q.o.keep (show w.cell? ⟨b,off+7+6,none⟩=some (.slice F6 s6.length F8) from by simpa[Rd.n] using T 6 _ rfl);have HV:=blk gF;clear q8 T ai qb zb;obtain⟨q9,zq,U,aj,-⟩:=lq.o.at (i:=2) (by omega);have aj:Rd.rd (α:=aA n1) zq w q9 e:=by rw[←He.o];exact aj
  obtain⟨yu,sO⟩:∃y:aA n1,y=e:=⟨_,rfl⟩;rw[←sO] at aj;have HY:=Kz sO;have zu:=Kz aj;obtain⟨u0,u1,u2,u3,u4,u5,u6⟩:=yu;obtain⟨Mq,Mr,uf,-,-,-,-,-,-,-,zx⟩:=aF (cs:=q9.toArray) u0 u1 u2 u3 u4 u5 u6 (show Rd.rd (α:=aA n1) zq w q9.toArray.toList _ from aj);obtain rfl:=toL uf;obtain⟨HZ,H5,rfl,-,-,-⟩:=zx.open;have ae:=q.o.keep (show w.cell? ⟨b,off+14,none⟩=some (.int .i64 u0) from by simpa[Rd.n] using U 0 _ rfl);have gT:=q.o.keep (show w.cell? ⟨b,off+14+1,none⟩=some (.int .i64 u1) from by simpa[Rd.n] using U 1 _ rfl);have gV:=q.o.keep (show w.cell? ⟨b,off+14+2,none⟩=some (.int .i64 u2) from by simpa[Rd.n] using U 2 _ rfl);have gX:=q.o.keep (show w.cell? ⟨b,off+14+3,none⟩=some (.int .i64 u3) from by simpa[Rd.n] using U 3 _ rfl);have ik:=q.o.keep (show w.cell? ⟨b,off+14+4,none⟩=some (.string u4) from by simpa[Rd.n] using U 4 _ rfl);have iw:=q.o.keep (show w.cell? ⟨b,off+14+5,none⟩=some (.string u5) from by simpa[Rd.n] using U 5 _ rfl);have kr:=q.o.keep (show w.cell? ⟨b,off+14+6,none⟩=some (.slice HZ u6.length H5) from by simpa[Rd.n] using U 6 _ rfl);have zy:=blk ae;clear uf U aj sO zx;obtain⟨D,au⟩:=(VG.o).c2;have uo:=blk D;obtain⟨I,ax,ay,aZ,bg,bq⟩:=(VR.o).c6;have uq:=blk I;obtain⟨J,bB,bH,bL,bR,bX,cB⟩:=(VX.o).c7;have uz:=blk J;obtain⟨K,cK,cO,dB,dS,dV,fe⟩:=(y5.o).c7;have ve:=blk K;obtain⟨V1,vB⟩:=nm (dZ (g0,g1) (V,X,Y,Z,r4,r5) (n1+1) (p0,p1,p2,p3,p4,p5,p6));obtain⟨V2,vD⟩:=nm (dZ (g0,g1) (V,X,Y,Z,r4,r5) (n1+1) (s0,s1,s2,s3,s4,s5,s6));obtain⟨V3,vF⟩:=nm (dZ (g0,g1) (V,X,Y,Z,r4,r5) (n1+1) (u0,u1,u2,u3,u4,u5,u6));have H1:=Kz vB.symm;have H2:=Kz vD.symm;have H3:=Kz vF.symm
  have HF:=Kz (show yc=if V1=3∧V2=V3 then V2 else 0 by
   rw[oH.o,A7.o]
   show(if _∧_ then _ else _)=_
   rw[←BM.o,←F4.o,←HY.o,vB,vD,vF])
  clear vB vD vF
  by_cases h1:V1=3
  ·subst h1
   refine wg ?_
   iterate 14 (go_big_quiet_step ((go_at_call_of 156 p0;refine aG (vT HE.o (g0,g1) (V,X,Y,Z,r4,r5) (p0,p1,p2,p3,p4,p5,p6) _ (Rd.gr HG.o ?_) (Rd.gr HR.o ?_) (Rd.gr y8.o ?_) H1.o)<;>exact q.o.trans gd)))
   refine wq fun nx=>?_
   go_wp2_with fail;obtain⟨B2,vG⟩:=nm (B.ext nx);have g2:Gr B B2:=by rw[vG];exact gd
   rw[←vG];clear vG;have vL:=Kz (q.o.trans g2);replace gF:=g2.keep gF;replace ze:=g2.keep ze;replace zf:=g2.keep zf;replace zg:=g2.keep zg;replace zl:=g2.keep zl;replace zn:=g2.keep zn;replace zo:=g2.keep zo;replace HV:=blk gF;replace ae:=g2.keep ae;replace gT:=g2.keep gT;replace gV:=g2.keep gV;replace gX:=g2.keep gX;replace ik:=g2.keep ik;replace iw:=g2.keep iw;replace kr:=g2.keep kr;replace zy:=blk ae;replace D:=g2.keep D;replace au:=g2.keep au;replace uo:=blk D;replace I:=g2.keep I;replace ax:=g2.keep ax;replace ay:=g2.keep ay;replace aZ:=g2.keep aZ;replace bg:=g2.keep bg;replace bq:=g2.keep bq;replace uq:=blk I;replace J:=g2.keep J;replace bB:=g2.keep bB;replace bH:=g2.keep bH;replace bL:=g2.keep bL;replace bR:=g2.keep bR;replace bX:=g2.keep bX;replace cB:=g2.keep cB;replace uz:=blk J;replace K:=g2.keep K;replace cK:=g2.keep cK;replace cO:=g2.keep cO;replace dB:=g2.keep dB;replace dS:=g2.keep dS;replace dV:=g2.keep dV;replace fe:=g2.keep fe;replace ve:=blk K;refine wg ?_
   iterate 8 (go_big_quiet_step ((go_at_call_of 156 s0;refine aG (vT HE.o (g0,g1) (V,X,Y,Z,r4,r5) (s0,s1,s2,s3,s4,s5,s6) _ (Rd.gr HG.o ?_) (Rd.gr HR.o ?_) (Rd.gr F5.o ?_) H2.o)<;>exact vL.o.trans gd)))
   refine wq fun nx=>?_
   go_wp2_with fail;obtain⟨B3,vO⟩:=nm (B2.ext nx);have g3:Gr B2 B3:=by rw[vO];exact gd
   rw[←vO];clear vO;have ak:=Kz (vL.o.trans g3);replace ae:=g3.keep ae;replace gT:=g3.keep gT;replace gV:=g3.keep gV;replace gX:=g3.keep gX;replace ik:=g3.keep ik;replace iw:=g3.keep iw;replace kr:=g3.keep kr;replace zy:=blk ae;replace D:=g3.keep D;replace au:=g3.keep au;replace uo:=blk D;replace I:=g3.keep I;replace ax:=g3.keep ax;replace ay:=g3.keep ay;replace aZ:=g3.keep aZ;replace bg:=g3.keep bg;replace bq:=g3.keep bq;replace uq:=blk I;replace J:=g3.keep J;replace bB:=g3.keep bB;replace bH:=g3.keep bH;replace bL:=g3.keep bL;replace bR:=g3.keep bR;replace bX:=g3.keep bX;replace cB:=g3.keep cB;replace uz:=blk J;replace K:=g3.keep K;replace cK:=g3.keep cK;replace cO:=g3.keep cO;replace dB:=g3.keep dB;replace dS:=g3.keep dS;replace dV:=g3.keep dV;replace fe:=g3.keep fe;replace ve:=blk K
   by_cases h2:V2=V3
   ·subst h2
    refine wg ?_
    iterate 9 (go_big_quiet_step ((go_at_call_of 156 u0;refine aG (vT HE.o (g0,g1) (V,X,Y,Z,r4,r5) (u0,u1,u2,u3,u4,u5,u6) _ (Rd.gr HG.o ?_) (Rd.gr HR.o ?_) (Rd.gr zu.o ?_) H3.o)<;>exact ak.o.trans gd)))
    refine wq fun nx=>?_
    go_wp2_with fail;go_ret;exact⟨by rw[HF.o];simp,ak.o.trans gd⟩
   ·have IV:(V2==V3)=false:=by simpa using h2
    have zL:(V2 !=V3)=true:=by simpa using h2
    refine wg ?_
    iterate 9 (go_big_quiet_step ((go_at_call_of 156 u0;refine aG (vT HE.o (g0,g1) (V,X,Y,Z,r4,r5) (u0,u1,u2,u3,u4,u5,u6) _ (Rd.gr HG.o ?_) (Rd.gr HR.o ?_) (Rd.gr zu.o ?_) H3.o)<;>exact ak.o.trans gd)))
    refine wq fun nx=>?_
    go_wp2_with fail;go_ret;exact⟨by rw[HF.o,if_neg (fun h=>h2 h.2)];rfl,ak.o.trans gd⟩
  ·have IV:(V1==3)=false:=by simpa using h1
   have zL:(V1 !=3)=true:=by simpa using h1
   refine wg ?_
   iterate 14 (go_big_quiet_step ((go_at_call_of 156 p0;refine aG (vT HE.o (g0,g1) (V,X,Y,Z,r4,r5) (p0,p1,p2,p3,p4,p5,p6) _ (Rd.gr HG.o ?_) (Rd.gr HR.o ?_) (Rd.gr y8.o ?_) H1.o)<;>exact q.o.trans gd)))
   refine wq fun nx=>?_
   go_wp2_with fail;go_ret;exact⟨by rw[HF.o,if_neg (fun h=>h1 h.1)];rfl,q.o.trans gd⟩
 ·have gD:¬((q6.length:Int)=3):=by omega
  have LB:((q6.length:Int)==3)=false:=by simpa using gD
  have LC:((q6.length:Int)!=3)=true:=by simpa using gD
  have HF:=Kz (show yc=0 from by
   rw[oH.o];unfold KN
   split
   ·simp at hlen
   ·rfl)
  clear hlen;obtain⟨D,au⟩:=(VG.o).c2;have uo:=blk D;obtain⟨I,ax,ay,aZ,bg,bq⟩:=(VR.o).c6;have uq:=blk I;obtain⟨J,bB,bH,bL,bR,bX,cB⟩:=(VX.o).c7;have uz:=blk J;obtain⟨K,cK,cO,dB,dS,dV,fe⟩:=(y5.o).c7;have ve:=blk K;refine wg ?_
  iterate 14 (go_big_quiet_step (fail))
  refine wq fun nx=>?_
  go_wp2_with fail;go_ret;exact⟨by rw[HF.o];rfl,q.o.trans gd⟩
end Go.Proofs.YtleafadpfeibfaaGreat
