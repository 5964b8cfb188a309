/- Contracts and laws towards ReadsOf, part 27 of 54. No condition. -/
import Derived.Test.YtdhighcpmcdmmaaGreatFx21
import Derived.Test.YtdhighcpmcdmmaaGreatFx23
set_option maxHeartbeats 32000000
set_option maxRecDepth 10000
set_option linter.unusedVariables false
set_option linter.unusedSimpArgs false
namespace Go.Proofs.YtdhighcpmcdmmaaGreat
open Go.RowKit
variable{d:Nat}
theorem rU(fp:List Nat)(cs:Array Value)(x:aA d)(w:World)(Y:Rd.rd fp w cs.toList x)(hl:ak x≤1048576):Qz 172 #[.agg cs] w (.bool (pB (Da x))):=by
 obtain⟨q0,q1,q2,q3,q4,q5,q6,J,K,au,rfl,rfl,-,ax,ay,aL,aN,aS,aV,aZ,ai,aj⟩:=KU Y;have Z:=Kz Y;clear Y;have HL:=Kz hl;have O:=Eb (d+1) (q0,q1,q2,q3,q4,q5,q6);have T:=AQ (d+1) (q0,q1,q2,q3,q4,q5,q6)
 have U:iP (d+1) (q0,q1,q2,q3,q4,q5,q6)≤2097152:=by
  have I:iP (d+1) (q0,q1,q2,q3,q4,q5,q6)≤ak ((q0,q1,q2,q3,q4,q5,q6):aA d)+1:=O;omega
 have X:cZ (d+1) (q0,q1,q2,q3,q4,q5,q6)≤2097152:=by
  have I:cZ (d+1) (q0,q1,q2,q3,q4,q5,q6)≤ak ((q0,q1,q2,q3,q4,q5,q6):aA d)+1:=T;omega
 have ae:=Kz U;have ah:=Kz X;obtain⟨D,hD⟩:=nm (iP (d+1) (q0,q1,q2,q3,q4,q5,q6));obtain⟨C,hC⟩:=nm (cZ (d+1) (q0,q1,q2,q3,q4,q5,q6));have HD:=Kz hD;have HC:=Kz hC;clear hl O U hD hC T X;delta Qz;go_in;go_wp2_with fail;generalize s:w.alloc (.cells #[.int .i64 q0,.int .i64 q1,.int .i64 q2,.int .i64 q3,.string q4,.string q5,.slice J q6.length K] 115)=B;have gB:Gr w B:=gb s;have b0:B.cell? ⟨w.heap.size,0,none⟩=some (.int .i64 q0):=by rw[←s];exact aJ rfl rfl
 have b1:B.cell? ⟨w.heap.size,1,none⟩=some (.int .i64 q1):=by rw[←s];exact aJ rfl rfl
 have b2:B.cell? ⟨w.heap.size,2,none⟩=some (.int .i64 q2):=by rw[←s];exact aJ rfl rfl
 have b3:B.cell? ⟨w.heap.size,3,none⟩=some (.int .i64 q3):=by rw[←s];exact aJ rfl rfl
 have b4:B.cell? ⟨w.heap.size,4,none⟩=some (.string q4):=by rw[←s];exact aJ rfl rfl
 have b5:B.cell? ⟨w.heap.size,5,none⟩=some (.string q5):=by rw[←s];exact aJ rfl rfl
 have b6:B.cell? ⟨w.heap.size,6,none⟩=some (.slice J q6.length K):=by rw[←s];exact aJ rfl rfl
 have q:=Kz gB;have E:=Kz (And.intro b0 (And.intro b1 (And.intro b2 (And.intro b3 (And.intro b4 (And.intro b5 b6))))));clear s gB b0 b1 b2 b3 b4 b5 b6;have H:=Kz (Gr.refl B);have y0:=H.o.keep E.o.1;have y1:=H.o.keep E.o.2.1;have y2:=H.o.keep E.o.2.2.1;have y3:=H.o.keep E.o.2.2.2.1;have y4:=H.o.keep E.o.2.2.2.2.1;have y5:=H.o.keep E.o.2.2.2.2.2.1;have y6:=H.o.keep E.o.2.2.2.2.2.2;have zy:=blk y0;refine(rC (qj d) _ _ (q0,q1,q2,q3,q4,q5,q6) _ (Rd.gr Z.o q.o) ah.o).mono ?_;rintro e w' ⟨rfl,x1,rfl⟩;rw[←HC.o]
 by_cases h0:(C:Int)≤24
 ·go_wp2_with fail
  refine(rY (qh d) _ _ (q0,q1,q2,q3,q4,q5,q6) _ (Rd.gr Z.o (tg q)) ae.o).mono ?_;rintro e w' ⟨rfl,x2,rfl⟩;rw[←HD.o]
  by_cases h6:(D:Int)≤6
  ·go_wp2_with fail
   refine(wT (sV (fun{d} (y:aA d)=>jJ y) d) _ _ (q0,q1,q2,q3,q4,q5,q6) 225 #[] _ ⟨Tryz.call225,fun y W hg fp cs hr hw=>Bw fp cs y W hr hw⟩ (Rd.gr Z.o (tg q)) HL.o).mono ?_;rintro e w' ⟨rfl,x3,rfl⟩;go_wp2_with fail;go_ret;refine⟨aa (iO ⟨fun h=>h.2.2,fun h=>⟨?_,?_,h⟩⟩).symm,q.o.trans gd⟩
   ·rw[←HC.o];omega
   ·rw[←HD.o];omega
  ·go_wp2_with fail
   go_ret;exact⟨aa (bz fun h=>by have I:=h.2.1;rw[←HD.o] at I;omega).symm,q.o.trans gd⟩
 ·go_wp2_with fail
  go_ret;exact⟨aa (bz fun h=>by have I:=h.1;rw[←HC.o] at I;omega).symm,q.o.trans gd⟩
theorem FI(fp:List Nat)(cs:Array Value)(x:aA d)(n:Int)(b:Nat)(w:World)(h:Rd.rd fp w cs.toList x)(q:w.cell? ⟨b,0,none⟩=some (.int .i64 n)):Qz 332 #[.agg cs,.pointer (some ⟨b,0,none⟩)] w (.bool (pB (x.2.2.1≤n))):=by
 obtain⟨q0,q1,q2,q3,q4,q5,q6,D,E,H,rfl,rfl,-,I,J,K,O,T,U,X,s,B⟩:=KU h;clear h;have Y:=blk q;delta Qz;go_in;go_wp2_with fail;go_ret;exact⟨aa (lZ Iff.rfl).symm,gd⟩
theorem jH(fp:List Nat)(cs:Array Value)(x:aA d)(n:Int)(w:World)(I:Rd.rd fp w cs.toList x)(K:ak x≤1048576):Qz 322 #[.agg cs,.int .i64 n] w (.bool (pB (ko n x))):=by
 have O:=Kz K;obtain⟨q0,q1,q2,q3,q4,q5,q6,E,H,ah,rfl,rfl,-,ai,aj,au,ax,ay,aL,aN,Z,ae⟩:=KU I;have T:=Kz I;clear I;clear K;delta Qz;go_in;go_wp2_with fail;generalize D:(w.alloc (.cells #[.int .i64 q0,.int .i64 q1,.int .i64 q2,.int .i64 q3,.string q4,.string q5,.slice E q6.length H] 115)).alloc (.cells #[.int .i64 n] 3)=B;have U:Gr w B:=gb D;have VX:=Kz (show az B w.heap.size 115 [.int .i64 q0,.int .i64 q1,.int .i64 q2,.int .i64 q3,.string q4,.string q5,.slice E q6.length H] from by rw[←D];exact(az.new (A:=w) rfl).gr gd);have VN:=Kz (show az B (w.heap.size+1) 3 [.int .i64 n] from by rw[←D];exact az.new (by simp));have q:=Kz U;clear D U;refine(rU _ _ (q0,q1,q2,q3,q4,q5,q6) _ (Rd.gr T.o q.o) O.o).mono ?_;rintro e w' ⟨rfl,x1,rfl⟩
 by_cases s:Da ((q0,q1,q2,q3,q4,q5,q6):aA d)
 ·rw[bQ s]
  have J:=Kz s;have X:Gr B (B.ext x1):=gd;have Y:=VX.o.gr X;obtain⟨y0,y1,y2,y3,y4,y5,y6⟩:=Y.c7;clear s X Y;go_wp2_with fail;refine(wT (sV (fun{d} (y:aA d)=>y.2.2.1≤n) d) _ _ (q0,q1,q2,q3,q4,q5,q6) 332 #[.pointer (some ⟨w.heap.size+1,0,none⟩)] _ ⟨Tryz.call332,fun y W hg fp cs hr hw=>FI fp cs y n _ W hr (((VN.o.gr gd).gr hg).c 0)⟩ (Rd.gr T.o (tg q)) O.o).mono ?_;rintro e w' ⟨rfl,x2,rfl⟩;go_wp2_with fail;go_ret;exact⟨aa (iO ⟨fun h=>h.2,fun h=>⟨J.o,h⟩⟩).symm,q.o.trans gd⟩
 ·rw[bz s]
  have J:=Kz s;clear s;go_wp2_with fail;go_ret;exact⟨aa (bz fun h=>J.o h.1).symm,q.o.trans gd⟩
theorem yA(fp:List Nat)(cs:Array Value)(x:aQ)(w:World)(q:Rd.rd fp w cs.toList x)(s:bI x≤1048576):Qz 320 #[.agg cs] w (.bool (pB (pW x))):=by
 rw[←Aj];obtain⟨R,h⟩:=nm (xA (pB (dh x.1)) x.2.1 x.2.2.1 x.2.2.2);rw[←h];have B:=Kz h;clear h;obtain⟨q0,q1,q2,q3⟩:=x;obtain⟨rfl,-,-,-,-⟩:=aR (cs:=cs) q0 q1 q2 q3 q;have D:q0.size≤2097152:=by have:q0.size≤1048576:=s;omega
 clear s q;delta Qz;go_in
 go_wp2_with (first|(go_at_call 101;refine(di _ _ _ _).mono ?_;rintro e w' ⟨rfl,rfl⟩)|(go_at_call 308;refine(lY _ _).mono ?_;rintro e w' ⟨rfl,E,rfl⟩)|(go_at_call 261;refine(bG _ D _).mono ?_;rintro e w' ⟨rfl,H,rfl⟩))
 go_ways
 all_goals
  go_ret;refine⟨aa ?_,gd⟩;rw[B.o];unfold xA;clear B
  first|(simp_all;done)|(simp_all;intros;omega)|(cases q3<;>simp_all<;>intros<;>omega)
theorem Hd(fp:List Nat)(cs:Array Value)(x:aQ)(s:ByteArray)(b:Nat)(w:World)(q:Rd.rd fp w cs.toList x)(B:w.cell? ⟨b,0,none⟩=some (.string s)):Qz 321 #[.agg cs,.pointer (some ⟨b,0,none⟩)] w (.bool (decide (x.1=s))):=by
 obtain⟨q0,q1,q2,q3⟩:=x;obtain⟨rfl,-,-,-,-⟩:=aR (cs:=cs) q0 q1 q2 q3 q;have D:=blk B;clear q;delta Qz;go_in;go_wp2_with fail;go_ret;refine⟨aa ?_,gd⟩
 by_cases h:q0=s
 ·rw[decide_eq_true h,h];simp
 ·rw[decide_eq_false h,beq_eq_false_iff_ne.2 fun e=>h (str_inj e)]
theorem lM{p:Prop}(h:pB p=false):¬p:=fun k=>by rw[bQ k] at h;cases h
theorem Aq{α:Type}{f:α→ByteArray}{xs:List α}{s:ByteArray}:(xs.any fun a=>decide (f a=s))=pB (s∈xs.map f):=by
 rw[Bool.eq_iff_iff,dx,List.any_eq_true,List.mem_map];constructor
 ·rintro⟨x,h,q⟩;exact⟨x,h,of_decide_eq_true q⟩
 ·rintro⟨x,h,q⟩;exact⟨x,h,decide_eq_true q⟩
theorem Dt(fs:List Nat)(cs:Array Value)(s:bC)(w:World)(hs:Rd.rd fs w cs.toList s)(hl:bM s≤1048576):Qz 282 #[.agg cs] w (.bool (pB (Dv s))):=by
  obtain⟨O,s1,ae,ah,bL,rfl,rfl,-,bN,T,bH,bK⟩:=Lg hs;have au:=T.op3;clear hs;have ai:O.size+wtL bI s1≤1048576:=hl;have ax:O.size≤2097152:=by omega
  have bV:s1.length≤1048576:=by have:=bT bI s1;omega
  have HL:=Kz ai;clear hl ai;delta Qz;go_in;go_wp2_with fail;generalize hB:(w.alloc (.cells #[.string O,.slice ae s1.length ah] 104))=B;have gB:Gr w B:=gb hB;obtain⟨aN,aS⟩:=kb2 hB (w.heap.size) (.string O) (.slice ae s1.length ah);clear hB
  go_loopw [8] (fun s6 wr=>∃k:Nat,k≤s1.length∧Ky (∀a∈s1.take k,pW a)∧Ky (kM Prod.fst (s1.take k))∧Ky (Gr B wr)∧s6=.int .i64 k) (fun s6 _=>s1.length - (intOf s6).toNat)
  case atStart=>exact⟨0,by omega,Kz (by simp),Kz (by intro i h;simp at h),Kz (Gr.refl _),rfl⟩
  case round=>
    obtain⟨k,hk,HA,HD,Z,rfl⟩:=hrel
    rename World=>W1
    have y0:=aN _ Z.o;have I:=aS _ Z.o;have aj:=blk I;have U:=gB.trans Z.o;have D:=Kz U
    by_cases q:k<s1.length
    · have aV:=dI bI s1 q
      have aZ:=Kz (show bI s1[k]≤1048576 by have:=HL.o;omega);have bg:=Kz (fun h=>dD q HA.o h);have bq:=Kz (lK q HD.o);have bB:=Kz (oC (f:=Prod.fst) (xs:=s1) q);have ay:=Kz (List.getElem_mem q);obtain⟨cK,X,-⟩:=T.pre hk;have aL:=Kz (X.gr D.o);clear aV X;obtain⟨b,off,rfl,cO⟩:=au k q;obtain⟨q0,q1,q2,q3,E,bD,dz,dA,dC,dG,dL,dU,dW,eH⟩:=K5 T q U;have k0:(0:Int)≤(k:Int):=by omega
      have k1:(k:Int)<(s1.length:Int):=by omega
      have iw:=zI1 k (by omega);clear U;go_wp2_with fail;generalize hC:(W1.alloc (.cells #[.string q0,.int .i64 q1,.int .i64 q2,.bool q3] 81))=C;have gC:Gr W1 C:=gb hC;have VC:=Kz (show az C W1.heap.size 81 [.string q0,.int .i64 q1,.int .i64 q2,.bool q3] from by rw[←hC];exact az.new rfl);replace I:=gC.keep I;replace aj:=blk I;have H:=Kz gC;clear hC gC y0;refine(yA _ _ (q0,q1,q2,q3) _ (Rd.gr bD.o (D.o.trans H.o)) (by rw[E.o];exact aZ.o)).mono ?_;rintro e w' ⟨rfl,x1,rfl⟩
      by_cases J:pW (q0,q1,q2,q3)
      · rw[bQ J]
        have HP:=Kz J;clear J;replace I:=(show Gr C (C.ext x1) from gd).keep I;replace aj:=blk I
        have HT:=Kz (show TestAttribute (C.ext x1) 321 #[.pointer (some ⟨W1.heap.size,0,none⟩)] (fun a=>decide (a.1=q0)) (s1.take k) from
          ⟨Tryz.call321,fun z _ x fp cs hr=>Hd fp cs z q0 _ _ hr ((VC.o.gr gd).c 0)⟩)
        go_wp2_with (first|(go_at_call 142;refine(gW _ _ (s1.take k) _ _ (fun a=>decide (a.1=q0)) _ (aL.o.gr (tg H)) HT.o).mono ?_;rintro e w' ⟨rfl,x2,rfl⟩;rw[Aq]))
        go_ways
        all_goals first
          | (have Y:q0∈List.take k (List.map Prod.fst s1):=dx.1 ‹_›
             have hm:q0∈(s1.take k).map Prod.fst:=by rw[List.map_take];exact Y
             go_ret;exact⟨aa (bz fun h=>bB.o (by rw[←E.o];exact hm) h.2.2.2).symm,D.o.trans (tg H)⟩)
          | (have Y:¬(q0∈List.take k (List.map Prod.fst s1)):=lM ‹_›
             have hm:¬(q0∈(s1.take k).map Prod.fst):=by rw[List.map_take];exact Y
             exact⟨⟨k+1,by omega,Kz (bg.o (by rw[←E.o];exact HP.o)),Kz (bq.o (by rw[←E.o];exact hm)),Kz (Z.o.trans (tg H)),by go_num⟩,by simp[intOf];omega⟩)
         
      · rw[bz J]
        have HP:=Kz J;clear J;go_wp2_with fail;go_ret;exact⟨aa (bz fun h=>HP.o (by rw[E.o];exact h.2.2.1 _ ay.o)).symm,D.o.trans (tg H)⟩
    · obtain rfl:k=s1.length:=by omega
      rw[List.take_length] at HA HD;go_wp2_with fail;refine(bG _ ax _).mono ?_;rintro e w' ⟨rfl,x1,rfl⟩
      by_cases K:dh O
      · rw[bQ K]
        have HN:=Kz K;clear K;go_wp2_with fail;go_ret;exact⟨aa (lZ ⟨fun h=>by have:s1.length≤4:=h.2.1;omega,fun h=>⟨HN.o,by show s1.length≤4;omega,HA.o,HD.o⟩⟩).symm,D.o.trans gd⟩
      · rw[bz K]
        have HN:=Kz K;clear K;go_wp2_with fail;go_ret;exact⟨aa (bz fun h=>HN.o h.1).symm,D.o.trans gd⟩
def nV(g:af d)(r:aW d):Prop:=∀p:Nat,p≤r.2.2.1.length→(bW g.1 (j6 r (p:Int))).isSome=true
def Ez(W:World)(b:Bool)(s:Value)(wr:World):Prop:=s=.bool b∧Gr W wr
set_option maxRecDepth 100000 in
theorem yx{fg fr:List Nat}{cg cr:Array Value}(g:af d)(r:aW d)(w:World)(hg:Rd.rd fg w cg.toList g)(E:Rd.rd fr w cr.toList r)(hl:aP g≤1048576)(hn:r.2.2.1.length≤1048576):
  Qz 271 #[.agg cg,.agg cr] w (.bool (pB (nV g r))):=by
 have bq:=Kz hl;clear hl;have HG:=Kz hg;obtain⟨D,U,ah,ai,iw,aj,au,jN,rfl,rfl,-,jX,dW,eH,q,fe,fu⟩:=yt hg;clear hg;have HR:=Kz E;obtain⟨H,I,s,J,K,O,ax,ay,j4,aL,aN,j5,aS,aV,ku,rfl,rfl,-,ky,kz,kE,fw,fA,kL,fK,gm,kQ,gD,gF⟩:=KV E;clear E;have kS:s.length≤1048576:=hn;have kT:IntKind.i64.wrap ((s.length:Int)+1)=(s.length:Int)+1:=IntWalk.i64_in _ (by omega);clear hn;delta Qz;go_in;go_wp2_with fail;generalize hB:((w.alloc (.cells #[.slice ah D.length ai,.slice aj U.length au] 36)).alloc (.cells #[.string H,.string I,.slice ax s.length ay,.bool J,.slice aL K.length aN,.slice aS O.length aV] 112))=B;have gB:Gr w B:=gb hB;obtain⟨bB,bD⟩:=kb2 hB (w.heap.size) (.slice ah D.length ai) (.slice aj U.length au);obtain⟨bH,bK,bL,bN,bV,cK⟩:=kb6 hB (w.heap.size+1) (.string H) (.string I) (.slice ax s.length ay) (.bool J) (.slice aL K.length aN) (.slice aS O.length aV);clear hB
 go_loopw [5] (fun s8 wr=>∃(p:Nat),p≤s.length+1∧Ky (∀k:Nat,k<p→(bW D (j6 (H,I,s,J,K,O) (k:Int))).isSome=true)∧Gr B wr∧s8=.int .i64 p) (fun s8 _=>s.length+1 - (intOf s8).toNat)
 case atStart=>exact⟨0,by omega,Kz (by intro k hk;omega),gd,rfl⟩
 case round=>
  obtain⟨p,hp,HK,q,rfl⟩:=hrel
  rename World=>W1
  have cO:=Kz q;have y0:=bB _ q;have y1:=bD _ q;have y2:=bH _ q;have y3:=bK _ q;have y4:=bL _ q;have y5:=bN _ q;have y6:=bV _ q;have y7:=cK _ q;have aZ:=gB.trans q;have T:=Kz aZ
  by_cases dz:p≤s.length
  ·have gH:(p:Int)≤(s.length:Int):=by omega
   have gM:(p:Int)<(s.length:Int)+1:=by omega
   have p0:(0:Int)≤(p:Int):=by omega
   have kV:=zI1 p (by omega);obtain⟨S,hS⟩:=nm (j6 (H,I,s,J,K,O) (p:Int));have X:=Kz hS;obtain⟨R,hR⟩:=nm ((bW D S).isSome);have Y:=Kz hR;clear hS hR
   go_upto_region 4 with fail
   have dA:=fun(w':World) (h:Gr W1 w')=>(⟨h.keep y0,h.keep y1,h.keep y2,h.keep y3,h.keep y4,h.keep y5,h.keep y6,h.keep y7⟩:_∧_∧_∧_∧_∧_∧_∧_)
   clear aZ
   go_cut [7] (fun sp wx=>Ez W1 R sp wx)
   case first=>
    go_region_held3 (fun w'=>Gr W1 w') (exact ga)
     (first|(go_at_call 184;refine(iG (H,I,s,J,K,O) (p:Int) _ (Rd.gr HR.o (T.o.trans ga))).mono ?_;rintro e w' ⟨rfl,x2,rfl⟩;rw[←X.o])|(go_at_call 59;refine(dX (D,U) S _ (Rd.gr HG.o (T.o.trans ga)) bq.o).mono ?_;rintro e w' ⟨es,fq,rfl,E,dC,x3,rfl⟩;obtain⟨s0,s1,kX,kZ,lq,Z,rfl,-,lG,lV,gT,ik⟩:=Lg (x:=(bW D S).getD dE) E;have l5:=Kz Z;have l6:=Lt Z E;clear E Z;obtain⟨bb,ae⟩:∃b:Bool,b=(bW D S).isSome:=⟨_,rfl⟩;rw[←ae];have dG:=Kz ae;clear ae;clear dC))
    all_goals
     go_wp2_with fail;go_meet;have hb:bb=R:=dG.o.trans Y.o.symm;subst hb;exact⟨rfl,gd⟩
   case rest=>
    obtain⟨rfl,g2⟩:=hcut
    rename World=>W2
    have dL:=Kz (cO.o.trans g2);have bg:=Kz (T.o.trans g2);clear dA y0 y1 y2 y3 y4 y5 y6 y7 g2
    cases R with
    |true=>
     go_wp2_with fail;refine⟨⟨p+1,by omega,Kz fun k hk=>?_,dL.o,by go_num⟩,by simp[intOf];omega⟩
     by_cases dU:k<p
     ·exact HK.o k dU
     ·obtain rfl:k=p:=by omega
      rw[←X.o];exact Y.o.symm
    |false=>
     go_wp2_with fail;go_ret;exact⟨aa (by rw[bz (show¬nV (D,U) (H,I,s,J,K,O) from fun h=>by have h1:=h p dz;rw[←X.o] at h1;exact absurd (Y.o.trans h1) (by decide))];try rfl),bg.o⟩
  ·have l7:p=s.length+1:=by omega
   go_wp2_with fail;go_ret;exact⟨aa (by rw[bQ (show nV (D,U) (H,I,s,J,K,O) from fun k hk=>HK.o k (by have:k≤s.length:=hk;omega))];try rfl),T.o⟩
end Go.Proofs.YtdhighcpmcdmmaaGreat
