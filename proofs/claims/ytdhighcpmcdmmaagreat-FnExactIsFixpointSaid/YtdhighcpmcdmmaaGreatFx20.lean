/- Contracts and laws towards ReadsOf, part 22 of 54. No condition. -/
import Derived.Test.YtdhighcpmcdmmaaGreatFx18
set_option maxHeartbeats 32000000
set_option maxRecDepth 10000
set_option linter.unusedVariables false
set_option linter.unusedSimpArgs false
namespace Go.Proofs.YtdhighcpmcdmmaaGreat
open Go.RowKit
open _root_.List (getElem_mem getElem_take take_length)
variable{d:Nat}
variable{k:Nat}
theorem BD(fp:List Nat)(cs:Array Value)(x:aA d)(w:World)(I:Rd.rd fp w cs.toList x)(U:ak x≤1048576):Qz 236 #[.agg cs] w (.bool (pB (jJ x))):=by
 obtain⟨q0,q1,q2,q3,q4,q5,q6,ah,ai,aj,rfl,rfl,-,au,ax,ay,aL,aN,aS,X,J,K⟩:=KU I;have O:=X.op3;have Y:=Kz I;clear I;have hw:q4.size+q5.size+wtL (wtE d) q6≤1048576:=U;have Z:q4.size≤2097152:=by omega
 have ae:q5.size≤2097152:=by omega
 clear U hw;rw[←jd];obtain⟨bB,D⟩:=nm (pB (xJ ((q0,q1,q2,q3,q4,q5,q6):aA d)));rw[←D];obtain⟨R,T⟩:=nm (jg q0 q1 q2 q3 bB (pB (eG q1 q3)) (pB (dh q4)) (pB (dh q5)));rw[←T];have E:=Kz T;have H:=Kz D;clear T D;delta Qz;go_in;go_wp2_with fail;refine(fI _ _ _ _).mono ?_;rintro e w' ⟨rfl,rfl⟩
 by_cases B:1≤q0∧q0≤8
 ·have s:(decide (1≤q0)&&decide (q0≤8))=true:=by rw[decide_eq_true B.1,decide_eq_true B.2];rfl
  rw[s];have q:=Kz s;clear s B;go_wp2_with fail;refine(BH _ _ (q0,q1,q2,q3,q4,q5,q6) _ (Rd.gr Y.o gd)).mono ?_;rintro e w' ⟨rfl,x1,rfl⟩;rw[←H.o]
  cases bB with
  |false=>
   go_wp2_with fail;go_ret;exact⟨aa (by rw[E.o];unfold jg;rw[q.o];rfl),gd⟩
  |true=>
   go_wp2_with (first|(go_at_call 86;refine(fI _ _ _ _).mono ?_;rintro e w' ⟨rfl,rfl⟩)|(go_at_call 157;refine(wU _ _ _).mono ?_;rintro e w' ⟨rfl,x2,rfl⟩)|(go_at_call_of 280 q5;refine(dN _ ae _).mono ?_;rintro e w' ⟨rfl,x3,rfl⟩)|(go_at_call_of 280 q4;refine(dN _ Z _).mono ?_;rintro e w' ⟨rfl,x4,rfl⟩))
   go_ways
   all_goals
    go_ret;refine⟨aa ?_,gd⟩;rw[E.o];unfold jg;rw[q.o];clear E q H Y J K O
    first|(simp_all;done)|(simp_all;intros;omega)|(simp_all;simp only[Bool.and_eq_false_iff,decide_eq_false_iff_not];omega)
 ·have s:(decide (1≤q0)&&decide (q0≤8))=false:=Bool.and_eq_false_iff.2 (by by_cases h:1≤q0<;>simp_all<;>omega)
  rw[s];have q:=Kz s;clear s B;go_wp2_with fail;go_ret;exact⟨aa (by rw[E.o];unfold jg;rw[q.o];rfl),gd⟩
theorem dD{α:Type}{P:α→Prop}{xs:List α}(h:k<xs.length)(s:∀z∈xs.take k,P z)(B:P xs[k]):∀z∈xs.take (k+1),P z:=by
 intro z q
 rw[List.take_succ_eq_append_getElem h,List.mem_append,List.mem_singleton] at q;rcases q with q|rfl
 ·exact s z q
 ·exact B
theorem lZ{p:Prop}{q:Prop}[Decidable q](h:p↔q):pB p=decide q:=by
 rw[Bool.eq_iff_iff,dx,decide_eq_true_iff,h]
theorem xw(hE:∀(fp:List Nat) (cs:Array Value) (x:GE d) (w:World) (U:Rd.rd fp w cs.toList x) (X:wtE d x≤1048576),Qz 193 #[.agg cs] w (.bool (pB (jh (fun{d} (y:aA d)=>jJ y) d x))))
  (fp:List Nat) (cs:Array Value) (x:aA d) (w:World) (U:Rd.rd fp w cs.toList x) (X:ak x≤1048576):Qz 193 #[.agg cs] w (.bool (pB (jh (fun{d} (y:aA d)=>jJ y) (d+1) x))):=by
 obtain⟨q0,q1,q2,q3,q4,q5,q6,Y,Z,bN,rfl,rfl,-,bV,cK,cO,dz,dA,dC,ae,bK,bL⟩:=KU U;have O:=ae.op3;have HX:=Kz U;have ai:=Kz ae;clear U;have hw:q4.size+q5.size+wtL (wtE d) q6≤1048576:=X;have HL:=Kz X;have aj:=Kz hw;clear X hw;rw[iO (AL (p:=fun{d} (y:aA d)=>jJ y))];delta Qz;go_in;go_wp2_with fail;generalize s:w.alloc (.cells #[.int .i64 q0,.int .i64 q1,.int .i64 q2,.int .i64 q3,.string q4,.string q5,.slice Y q6.length Z] 115)=B;have gB:Gr w B:=gb s;have b0:B.cell? ⟨w.heap.size,0,none⟩=some (.int .i64 q0):=by rw[←s];exact aJ rfl rfl
 have b1:B.cell? ⟨w.heap.size,1,none⟩=some (.int .i64 q1):=by rw[←s];exact aJ rfl rfl
 have b2:B.cell? ⟨w.heap.size,2,none⟩=some (.int .i64 q2):=by rw[←s];exact aJ rfl rfl
 have b3:B.cell? ⟨w.heap.size,3,none⟩=some (.int .i64 q3):=by rw[←s];exact aJ rfl rfl
 have b4:B.cell? ⟨w.heap.size,4,none⟩=some (.string q4):=by rw[←s];exact aJ rfl rfl
 have b5:B.cell? ⟨w.heap.size,5,none⟩=some (.string q5):=by rw[←s];exact aJ rfl rfl
 have b6:B.cell? ⟨w.heap.size,6,none⟩=some (.slice Y q6.length Z):=by rw[←s];exact aJ rfl rfl
 have au:=Kz gB;have I:=Kz (And.intro b0 (And.intro b1 (And.intro b2 (And.intro b3 (And.intro b4 (And.intro b5 b6))))));clear s gB b0 b1 b2 b3 b4 b5 b6
 go_loopw [3] (fun s3 wr=>∃(k:Nat),k≤q6.length∧Ky (∀z∈q6.take k,jh (fun{d} (y:aA d)=>jJ y) d z)∧Ky (Gr B wr)∧s3=.int .i64 k) (fun s3 _=>q6.length - (intOf s3).toNat)
 case atStart=>exact⟨0,by omega,Kz (fun z hz=>by simp at hz),Kz (Gr.refl _),rfl⟩
 case round=>
  obtain⟨k,hk,HA,D,rfl⟩:=hrel
  rename World=>W1
  have y0:=D.o.keep I.o.1;have y1:=D.o.keep I.o.2.1;have y2:=D.o.keep I.o.2.2.1;have y3:=D.o.keep I.o.2.2.2.1;have y4:=D.o.keep I.o.2.2.2.2.1;have y5:=D.o.keep I.o.2.2.2.2.2.1;have y6:=D.o.keep I.o.2.2.2.2.2.2;have E:=Kz (au.o.trans D.o)
  by_cases H:k<q6.length
  ·have ax:=dI (wtE d) q6 H
   have ay:=Kz (show wtE d q6[k]≤1048576 by have:=aj.o;omega);have aL:=Kz (fun h=>dD H HA.o h);have ah:=Kz (getElem_mem H);clear ax
   obtain⟨d1,rfl⟩:∃e,d=e+1:=by
    cases d with
    |zero=>exact PEmpty.elim (q6[k])
    |succ e=>exact⟨e,rfl⟩
   obtain⟨b,off,rfl,hb⟩:=O k H;obtain⟨p0,p1,p2,p3,p4,p5,p6,dG,dL,dU,dW,aN,aS,aV,aZ,bg,bq,bB,bD,bH,-,-,z0,z1,z2,z3,z4,z5,z6,zb⟩:=Lc ai.o H E.o;have k0:(0:Int)≤(k:Int):=by omega
   have k1:(k:Int)<(q6.length:Int):=by omega
   have iw:=zI1 k (by omega);clear O aV aZ bg bq bB bD bH;go_wp2_with fail;refine(hE _ _ q6[k] _ (Rd.gr (by rw[←aN.o];exact aS.o) E.o) ay.o).mono ?_;rintro e w' ⟨rfl,T⟩;have K:=Kz T;clear T
   by_cases q:jh (fun{d} (y:aA d)=>jJ y) (d1+1) q6[k]
   ·rw[bQ q]
    have J:=Kz q;clear q;go_wp2_with fail;exact⟨⟨k+1,by omega,Kz (aL.o J.o),Kz (D.o.trans K.o),by go_num⟩,by simp[intOf];omega⟩
   ·rw[bz q]
    have J:=Kz q;clear q;go_wp2_with fail;go_ret;exact⟨aa (bz fun h=>J.o (h.2 _ ah.o)).symm,E.o.trans K.o⟩
  ·obtain rfl:k=q6.length:=by omega
   rw[take_length] at HA;go_wp2_with fail;refine(BD _ _ (q0,q1,q2,q3,q4,q5,q6) _ (Rd.gr HX.o E.o) HL.o).mono ?_;rintro e w' ⟨rfl,T⟩;have K:=Kz T;clear T;go_wp2_with fail;go_ret;exact⟨aa (iO ⟨fun h=>h.1,fun h=>⟨h,HA.o⟩⟩).symm,E.o.trans K.o⟩
theorem uC:(d:Nat)→∀(fp:List Nat) (cs:Array Value) (x:GE d) (w:World) (h:Rd.rd fp w cs.toList x) (q:wtE d x≤1048576),Qz 193 #[.agg cs] w (.bool (pB (jh (fun{d} (y:aA d)=>jJ y) d x)))
 |0=>by intro fp cs x;exact PEmpty.elim x
 |d+1=>xw (uC d)
theorem qf(n:Int)(hE:∀(fp:List Nat) (cs:Array Value) (x:GE d) (w:World) (X:Rd.rd fp w cs.toList x) (Y:wtE d x≤1048576),Qz 329 #[.agg cs,.int .i64 n] w (.bool (pB (jh (fun{d} (y:aA d)=>y.2.2.1≤n) d x))))
  (fp:List Nat) (cs:Array Value) (x:aA d) (w:World) (X:Rd.rd fp w cs.toList x) (Y:ak x≤1048576):Qz 329 #[.agg cs,.int .i64 n] w (.bool (pB (jh (fun{d} (y:aA d)=>y.2.2.1≤n) (d+1) x))):=by
 obtain⟨q0,q1,q2,q3,q4,q5,q6,K,O,bL,rfl,rfl,-,bN,bV,cK,cO,dz,dA,T,bH,bK⟩:=KU X;have I:=T.op3;have ah:=Kz T;clear X;have hw:q4.size+q5.size+wtL (wtE d) q6≤1048576:=Y;have ai:=Kz hw;clear Y hw;rw[iO (AL (p:=fun{d} (y:aA d)=>y.2.2.1≤n))];delta Qz;go_in;go_wp2_with fail;generalize s:w.alloc (.cells #[.int .i64 q0,.int .i64 q1,.int .i64 q2,.int .i64 q3,.string q4,.string q5,.slice K q6.length O] 115)=B;have gB:Gr w B:=gb s;have b0:B.cell? ⟨w.heap.size,0,none⟩=some (.int .i64 q0):=by rw[←s];exact aJ rfl rfl
 have b1:B.cell? ⟨w.heap.size,1,none⟩=some (.int .i64 q1):=by rw[←s];exact aJ rfl rfl
 have b2:B.cell? ⟨w.heap.size,2,none⟩=some (.int .i64 q2):=by rw[←s];exact aJ rfl rfl
 have b3:B.cell? ⟨w.heap.size,3,none⟩=some (.int .i64 q3):=by rw[←s];exact aJ rfl rfl
 have b4:B.cell? ⟨w.heap.size,4,none⟩=some (.string q4):=by rw[←s];exact aJ rfl rfl
 have b5:B.cell? ⟨w.heap.size,5,none⟩=some (.string q5):=by rw[←s];exact aJ rfl rfl
 have b6:B.cell? ⟨w.heap.size,6,none⟩=some (.slice K q6.length O):=by rw[←s];exact aJ rfl rfl
 have aj:=Kz gB;have HB:=Kz (And.intro b0 (And.intro b1 (And.intro b2 (And.intro b3 (And.intro b4 (And.intro b5 b6))))));clear s gB b0 b1 b2 b3 b4 b5 b6
 go_loopw [5] (fun Z wr=>∃(k:Nat),k≤q6.length∧Ky (∀z∈q6.take k,jh (fun{d} (y:aA d)=>y.2.2.1≤n) d z)∧Ky (Gr B wr)∧Z=.int .i64 k) (fun Z _=>q6.length - (intOf Z).toNat)
 case atStart=>exact⟨0,by omega,Kz (fun z hz=>by simp at hz),Kz (Gr.refl _),rfl⟩
 case round=>
  obtain⟨k,hk,HA,J,rfl⟩:=hrel
  rename World=>W1
  have y2:=J.o.keep HB.o.2.2.1;have y6:=J.o.keep HB.o.2.2.2.2.2.2;have H:=Kz (aj.o.trans J.o)
  by_cases D:k<q6.length
  ·have au:=dI (wtE d) q6 D
   have ax:=Kz (show wtE d q6[k]≤1048576 by have:=ai.o;omega);have ay:=Kz (fun h=>dD D HA.o h);have ae:=Kz (getElem_mem D);clear au
   obtain⟨d1,rfl⟩:∃e,d=e+1:=by
    cases d with
    |zero=>exact PEmpty.elim (q6[k])
    |succ e=>exact⟨e,rfl⟩
   obtain⟨b,off,rfl,hb⟩:=I k D;obtain⟨p0,p1,p2,p3,p4,p5,p6,dC,dG,dL,dU,aL,aN,aS,aV,aZ,bg,bq,bB,bD,-,-,z0,z1,z2,z3,z4,z5,z6,zb⟩:=Lc ah.o D H.o;have k0:(0:Int)≤(k:Int):=by omega
   have k1:(k:Int)<(q6.length:Int):=by omega
   have iw:=zI1 k (by omega);clear I aS aV aZ bg bq bB bD;go_wp2_with fail;refine(hE _ _ q6[k] _ (Rd.gr (by rw[←aL.o];exact aN.o) H.o) ax.o).mono ?_;rintro e w' ⟨rfl,g2⟩;have U:=Kz g2;clear g2
   by_cases q:jh (fun{d} (y:aA d)=>y.2.2.1≤n) (d1+1) q6[k]
   ·rw[bQ q]
    have E:=Kz q;clear q;go_wp2_with fail;exact⟨⟨k+1,by omega,Kz (ay.o E.o),Kz (J.o.trans U.o),by go_num⟩,by simp[intOf];omega⟩
   ·rw[bz q]
    have E:=Kz q;clear q;go_wp2_with fail;go_ret;exact⟨aa (bz fun h=>E.o (h.2 _ ae.o)).symm,H.o.trans U.o⟩
  ·obtain rfl:k=q6.length:=by omega
   rw[take_length] at HA;go_wp2_with fail
   all_goals
    go_ret;refine⟨aa (lZ ?_).symm,H.o⟩;exact⟨fun h=>h.1,fun h=>⟨h,HA.o⟩⟩
theorem og(n:Int):(d:Nat)→∀(fp:List Nat) (cs:Array Value) (x:GE d) (w:World) (h:Rd.rd fp w cs.toList x) (q:wtE d x≤1048576),Qz 329 #[.agg cs,.int .i64 n] w (.bool (pB (jh (fun{d} (y:aA d)=>y.2.2.1≤n) d x)))
 |0=>by intro fp cs x;exact PEmpty.elim x
 |d+1=>qf n (og n d)
theorem qM(fp:List Nat)(cs:Array Value)(x:aA d)(w:World)(Y:Rd.rd fp w cs.toList x)(hl:ak x≤1048576):Qz 128 #[.agg cs] w (.bool (pB (Da x))):=by
 obtain⟨q0,q1,q2,q3,q4,q5,q6,O,T,ax,rfl,rfl,-,ay,aL,aN,aS,aV,aZ,bg,aj,au⟩:=KU Y;have Z:=Kz Y;clear Y;have HL:=Kz hl;have U:=Eb (d+1) (q0,q1,q2,q3,q4,q5,q6)
 have X:iP (d+1) (q0,q1,q2,q3,q4,q5,q6)≤2097152:=by
  have K:iP (d+1) (q0,q1,q2,q3,q4,q5,q6)≤ak ((q0,q1,q2,q3,q4,q5,q6):aA d)+1:=U;omega
 have ae:=Kz X;obtain⟨D,hD⟩:=nm (iP (d+1) (q0,q1,q2,q3,q4,q5,q6));obtain⟨C,hC⟩:=nm (cZ (d+1) (q0,q1,q2,q3,q4,q5,q6));have HD:=Kz hD;have HC:=Kz hC;clear hl U X hD hC;delta Qz;go_in;go_wp2_with fail;generalize s:w.alloc (.cells #[.int .i64 q0,.int .i64 q1,.int .i64 q2,.int .i64 q3,.string q4,.string q5,.slice O q6.length T] 115)=B;have gB:Gr w B:=gb s;have b0:B.cell? ⟨w.heap.size,0,none⟩=some (.int .i64 q0):=by rw[←s];exact aJ rfl rfl
 have b1:B.cell? ⟨w.heap.size,1,none⟩=some (.int .i64 q1):=by rw[←s];exact aJ rfl rfl
 have b2:B.cell? ⟨w.heap.size,2,none⟩=some (.int .i64 q2):=by rw[←s];exact aJ rfl rfl
 have b3:B.cell? ⟨w.heap.size,3,none⟩=some (.int .i64 q3):=by rw[←s];exact aJ rfl rfl
 have b4:B.cell? ⟨w.heap.size,4,none⟩=some (.string q4):=by rw[←s];exact aJ rfl rfl
 have b5:B.cell? ⟨w.heap.size,5,none⟩=some (.string q5):=by rw[←s];exact aJ rfl rfl
 have b6:B.cell? ⟨w.heap.size,6,none⟩=some (.slice O q6.length T):=by rw[←s];exact aJ rfl rfl
 have q:=Kz gB;have E:=Kz (And.intro b0 (And.intro b1 (And.intro b2 (And.intro b3 (And.intro b4 (And.intro b5 b6))))));clear s gB b0 b1 b2 b3 b4 b5 b6;have H:=Kz (Gr.refl B);have y0:=H.o.keep E.o.1;have y1:=H.o.keep E.o.2.1;have y2:=H.o.keep E.o.2.2.1;have y3:=H.o.keep E.o.2.2.2.1;have y4:=H.o.keep E.o.2.2.2.2.1;have y5:=H.o.keep E.o.2.2.2.2.2.1;have y6:=H.o.keep E.o.2.2.2.2.2.2;have zy:=blk y0;refine(uk (rP d) _ _ (q0,q1,q2,q3,q4,q5,q6) 24 _ (Rd.gr Z.o q.o) (by omega) (by omega)).mono ?_;rintro e w' ⟨r,rfl,bq,I,J,x1,rfl⟩;rw[←HC.o] at I J;have ah:=Kz I;have ai:=Kz J;clear I J
 by_cases h0:0≤r
 ·go_wp2_with fail
  refine(rW (pX d) _ _ (q0,q1,q2,q3,q4,q5,q6) _ (Rd.gr Z.o (tg q)) ae.o).mono ?_;rintro e w' ⟨rfl,x2,rfl⟩;rw[←HD.o]
  by_cases h6:(D:Int)≤6
  ·go_wp2_with fail
   refine(xw (uC d) _ _ (q0,q1,q2,q3,q4,q5,q6) _ (Rd.gr Z.o (tg q)) HL.o).mono ?_;rintro e w' ⟨rfl,x3,rfl⟩;go_wp2_with fail;go_ret;refine⟨aa (iO ⟨fun h=>h.2.2,fun h=>⟨?_,?_,h⟩⟩).symm,q.o.trans gd⟩
   ·rw[←HC.o]
    rcases Int.lt_or_le 24 (C:Int) with h|h
    ·have:=ai.o h;omega
    ·omega
   ·rw[←HD.o];omega
  ·go_wp2_with fail
   go_ret;exact⟨aa (bz fun h=>by have K:=h.2.1;rw[←HD.o] at K;omega).symm,q.o.trans gd⟩
 ·go_wp2_with fail
  go_ret;exact⟨aa (bz fun h=>by have K:=h.1;rw[←HC.o] at K;have:=ah.o (by omega);omega).symm,q.o.trans gd⟩
theorem jy(fp:List Nat)(cs:Array Value)(x:aA d)(n:Int)(w:World)(s:Rd.rd fp w cs.toList x)(D:ak x≤1048576):Qz 314 #[.agg cs,.int .i64 n] w (.bool (pB (ko n x))):=by
 have E:=Kz D;obtain⟨q0,q1,q2,q3,q4,q5,q6,K,O,T,rfl,rfl,-,U,X,Y,Z,ae,ah,ai,I,J⟩:=KU s;have H:=Kz s;clear s;clear D;delta Qz;go_in;go_wp2_with fail;refine(qM _ _ (q0,q1,q2,q3,q4,q5,q6) _ (Rd.gr H.o gd) E.o).mono ?_;rintro e w' ⟨rfl,x1,rfl⟩
 by_cases q:Da ((q0,q1,q2,q3,q4,q5,q6):aA d)
 ·rw[bQ q]
  have B:=Kz q;clear q;go_wp2_with fail;refine(qf n (og n d) _ _ (q0,q1,q2,q3,q4,q5,q6) _ (Rd.gr H.o gd) E.o).mono ?_;rintro e w' ⟨rfl,x2,rfl⟩;go_wp2_with fail;go_ret;exact⟨aa (iO ⟨fun h=>h.2,fun h=>⟨B.o,h⟩⟩).symm,gd⟩
 ·rw[bz q]
  have B:=Kz q;clear q;go_wp2_with fail;go_ret;exact⟨aa (bz fun h=>B.o h.1).symm,gd⟩
theorem Tryz.Ac:(Tryz.prog.info? 9).map (fun i=>(i.zero,i.size,i.bytes))=some (some (.string ByteArray.empty),1,16):=by kernel_rfl
theorem SlR.pre{α:Type}[Rd α]{fp:List Nat}{w:World}{a:Option Addr}{len cap:Nat}{xs:List α}(h:SlR fp w (.slice a len cap) xs)(D:k≤xs.length):∃fq,SlR fq w (.slice a k cap) (xs.take k)∧∀c∈fq,c∈fp:=by
 obtain⟨a',E,H,h1,h2,I⟩:=h;injection H with J e2 K;subst J K;have q:(xs.take k).length=k:=by simp;omega
 by_cases O:k=0
 ·subst O
  exact⟨[],⟨a,cap,by simp,by simp,by simp,.inl ⟨by simp,rfl⟩⟩,by simp⟩
 ·rcases I with⟨rfl,_⟩|⟨b,off,fps,Z,rfl,rfl,hlen,s,T⟩
  ·simp at D;omega
  ·refine⟨b::(fps.take k).flatten,⟨some ⟨b,off,none⟩,cap,by rw[q],by rw[q];omega,by rw[q];omega,.inr ⟨b,off,fps.take k,fun e=>by rw[e] at q;simp at q;omega,rfl,rfl,by simp;omega,fun j U=>s j (Nat.lt_of_lt_of_le U (Nat.mul_le_mul_right _ (by omega))),fun i hi ae=>?_⟩⟩,fun c hc=>?_⟩
   ·have ah:i<k:=by omega
    obtain⟨cs,hc,X⟩:=T i (by omega) (by omega);exact⟨cs,hc,by simpa using X⟩
   ·rcases List.mem_cons.1 hc with h|h
    ·rw[h];simp
    ·obtain⟨f,Y,B⟩:=List.mem_flatten.1 h
     exact List.mem_cons_of_mem _ (List.mem_flatten.2 ⟨f,List.mem_of_mem_take Y,B⟩)
theorem lK{α:Type}{f:α→ByteArray}{xs:List α}(h:k<xs.length)(B:kM f (xs.take k))(D:f xs[k]∉(xs.take k).map f):kM f (xs.take (k+1)):=by
 intro i E j I q e
 have H:i<k+1:=by simp at E;omega
 rw[getElem_take,getElem_take] at e
 by_cases s:i=k
 ·subst s
  exact D (List.mem_map.2 ⟨xs[j],List.mem_iff_getElem.2 ⟨j,by simp;omega,by rw[getElem_take]⟩,e⟩)
 ·exact B i (by simp;omega) j (by simp;omega) q (by rw[getElem_take,getElem_take];exact e)
theorem oC{α:Type}{f:α→ByteArray}{xs:List α}(h:k<xs.length)(B:f xs[k]∈(xs.take k).map f):¬kM f xs:=by
 intro D
 obtain⟨y,E,e⟩:=List.mem_map.1 B;obtain⟨j,H,q⟩:=List.mem_iff_getElem.1 E;have s:j<k:=by simp at H;omega
 rw[getElem_take] at q;exact D k h j (by omega) s (by rw[q,e])
def xA(n:Bool)(t m:Int)(c:Bool):Bool:=n&&(decide (1≤t)&&decide (t≤4))&&(decide (1≤m)&&decide (m≤3))&&(!(m==3)||((t==2)&&!c))&&(!c||(t==2))
theorem Aj(a:aQ):xA (pB (dh a.1)) a.2.1 a.2.2.1 a.2.2.2=pB (pW a):=by
 obtain⟨q0,q1,q2,q3⟩:=a;rw[Bool.eq_iff_iff,dx]
 show xA (pB (dh q0)) q1 q2 q3=true↔dh q0∧(1≤q1∧q1≤4)∧(1≤q2∧q2≤3)∧(q2=3→q1=2∧q3=false)∧(q3=true→q1=2)
 unfold xA
 cases q3<;>by_cases h:q2=3<;>by_cases q:q1=2<;>simp[dx,h,q,and_assoc]
theorem xW(fp:List Nat)(cs:Array Value)(x:aQ)(w:World)(q:Rd.rd fp w cs.toList x)(s:bI x≤1048576):Qz 312 #[.agg cs] w (.bool (pB (pW x))):=by
 rw[←Aj];obtain⟨R,h⟩:=nm (xA (pB (dh x.1)) x.2.1 x.2.2.1 x.2.2.2);rw[←h];have B:=Kz h;clear h;obtain⟨q0,q1,q2,q3⟩:=x;obtain⟨rfl,-,-,-,-⟩:=aR (cs:=cs) q0 q1 q2 q3 q;have D:q0.size≤2097152:=by have:q0.size≤1048576:=s;omega
 clear s q;delta Qz;go_in
 go_wp2_with (first|(go_at_call 86;refine(fI _ _ _ _).mono ?_;rintro e w' ⟨rfl,rfl⟩)|(go_at_call 280;refine(dN _ D _).mono ?_;rintro e w' ⟨rfl,E,rfl⟩))
 go_ways
 all_goals
  go_ret;refine⟨aa ?_,gd⟩;rw[B.o];unfold xA;clear B
  first|(simp_all;done)|(simp_all;intros;omega)|(cases q3<;>simp_all<;>intros<;>omega)
theorem AR{fp:List Nat}{u:Value}(xs:List ByteArray)(w:World)(hu:SlR fp w u xs):
  Qz 313 #[u] w (.bool (pB (kM id xs))):=by
 have K:=Kz hu;obtain⟨a,c,rfl,k1,k2,X⟩:=hu.open;clear hu;delta Qz;go_in;go_wp2_with fail
 go_loopw [3] (fun D wr=>∃k:Nat,k≤xs.length∧Ky (kM id (xs.take k))∧Ky (Gr w wr)∧D=.int .i64 k) (fun D _=>xs.length - (intOf D).toNat)
 case atStart=>exact⟨0,by omega,Kz (by intro i h;simp at h),Kz (Gr.refl _),rfl⟩
 case round=>
  obtain⟨k,Y,E,s,rfl⟩:=hrel
  rename World=>W1
  by_cases q:k<xs.length
  ·obtain⟨b,off,rfl,hb⟩:=X k q
   have O:=s.o.keep (K.o.jl q).1;obtain⟨y,H⟩:=nm (xs[k]);rw[←H] at O;have T:=Kz H;clear H;obtain⟨fq,B,-⟩:=K.o.pre Y;have I:=Kz (B.gr s.o);clear B;have z1:=blk O;have k0:(0:Int)≤(k:Int):=by omega
   have ae:(k:Int)<(xs.length:Int):=by omega
   have iw:=zI1 k (by omega);go_wp2_with fail;refine wg ?_
   repeat(go_big_quiet_step ((go_at_call 269;refine aG (mi (xs.take k) y _ (I.o.gr ?_))<;>exact gd)))
   refine wq fun nx=>?_
   by_cases hm:y∈xs.take k
   ·rw[bQ hm]
    have J:=Kz hm;clear hm;go_wp2_with fail;go_ret;refine⟨aa (bz fun h=>?_).symm,s.o.trans gd⟩;obtain⟨j,Z,e⟩:=List.mem_iff_getElem.1 J.o;have U:j<k:=by simp at Z;omega
    refine h k q j (by omega) U ?_
    rw[getElem_take] at e
    show xs[j]=xs[k]
    rw[e,T.o]
   ·rw[bz hm]
    have J:=Kz hm;clear hm;go_wp2_with fail;refine⟨⟨k+1,by omega,Kz (lK (f:=id) q E.o (fun h=>J.o (by rw[T.o];simpa using h))),Kz (tg s),by go_num⟩,by simp[intOf];omega⟩
  ·obtain rfl:k=xs.length:=by omega
   rw[take_length] at E;go_wp2_with fail;go_ret;exact⟨aa (bQ E.o).symm,s.o⟩
theorem G6{α:Type}{f:α→ByteArray}{xs:List α}:kM id (xs.map f)↔kM f xs:=by
 constructor
 ·intro h i s j B q e
  exact h i (by simpa using s) j (by simpa using B) q (by simpa using e)
 ·intro h i s j B q e
  exact h i (by simpa using s) j (by simpa using B) q (by simpa using e)
theorem CJ(fs:List Nat)(cs:Array Value)(s:bC)(w:World)(hs:Rd.rd fs w cs.toList s)(hl:bM s≤1048576):Qz 268 #[.agg cs] w (.bool (pB (Dv s))):=by
 obtain⟨i0,hi⟩:=info_parts Tryz.Ac;have HZ:=Kz hi;clear hi;obtain⟨Z,s1,ai,aj,dC,rfl,rfl,-,dG,au,dz,dA⟩:=Lg hs;have aL:=au.op3;clear hs;have ax:Z.size+wtL bI s1≤1048576:=hl;have aN:Z.size≤2097152:=by omega
 have dL:s1.length≤1048576:=by have:=bT bI s1;omega
 have HL:=Kz ax;clear hl ax;delta Qz;go_in;go_wp2_with fail;generalize hB:(w.alloc (.cells #[.string Z,.slice ai s1.length aj] 104))=B;have gB:Gr w B:=gb hB;obtain⟨aV,aZ⟩:=kb2 hB (w.heap.size) (.string Z) (.slice ai s1.length aj);have sB:B.heap.size=w.heap.size+1:=szB hB;clear hB
 go_loopw [4,3] (fun s6 s5 wr=>∃(k:Nat) (fps:List (List Nat)),k≤s1.length∧Ky (fps.flatten=[])∧Ky (∀a∈s1.take k,pW a)∧Gr B wr∧bE (α:=ByteArray) B 9 wr s5 fps ((s1.take k).map Prod.fst)∧s6=.int .i64 k) (fun s6 _ _=>s1.length - (intOf s6).toNat)
 case atStart=>exact⟨0,[],by omega,Kz rfl,Kz (by simp),gd,bE.kF (α:=ByteArray) (w0:=B) (w:=B) 9 (Nat.le_refl _) (by omega),rfl⟩
 case round=>
  obtain⟨k,fps,hk,HF,HA,E,hown,rfl⟩:=hrel
  rename World=>W1
  have bg:=Kz E;have HO:=Kz hown;obtain⟨L,hL⟩:=nm ((s1.take k).map Prod.fst);have ay:L.length=k:=by rw[hL];simp;omega
  have dU:L.length≤1048576:=by omega
  have bq:=Kz ay;clear ay;obtain⟨ra,rc,T⟩:=hown.form;rw[←hL] at T;subst T;have H:=Kz hL;have y0:=aV _ E;have y1:=aZ _ E;have bB:=blk y1;have ae:=gB.trans E;have J:=Kz ae;clear E hown hL
  by_cases I:k<s1.length
  ·have bD:=dI bI s1 I
   have bH:=Kz (show bI s1[k]≤1048576 by have:=HL.o;omega);have bK:=Kz (fun h=>dD I HA.o h);have aS:=Kz (getElem_mem I);clear bD;obtain⟨b,off,rfl,dW⟩:=aL k I;obtain⟨q0,q1,q2,q3,U,bL,bN,eH,fe,ah,fu,fw,fA,bV⟩:=K5 au I ae;have k0:(0:Int)≤(k:Int):=by omega
   have k1:(k:Int)<(s1.length:Int):=by omega
   have iw:=zI1 k (by omega);have HQ:=Kz bN
   have cK:=Kz (show(s1.take (k+1)).map Prod.fst=L++[q0] by
    rw[List.take_succ_eq_append_getElem I,List.map_append,H.o,←U.o];rfl)
   clear ae;go_wp2_with fail;refine(xW _ _ (q0,q1,q2,q3) _ (Rd.gr bL.o J.o) (by rw[U.o];exact bH.o)).mono ?_;rintro e w' ⟨rfl,g2⟩;have q:=Kz g2;clear g2
   rename World=>W2
   by_cases D:pW (q0,q1,q2,q3)
   ·rw[bQ D]
    have K:=Kz (show pW s1[k] by rw[←U.o];exact D);clear D;replace y0:=q.o.keep y0;replace y1:=q.o.keep y1;replace bB:=blk y1;replace ah:=q.o.keep ah;replace bV:=blk ah
    go_wp2_with (first|(at_builtin;refine bP (α:=ByteArray) (w0:=B) ((bg.o.trans q.o).trans gd) rfl _ _ 94 rfl 9 i0 _ _ Tryz.underlying94 HZ.o.1 HZ.o.2.1 HZ.o.2.2.1 HZ.o.2.2.2 rfl _ fps _ (by rfl) (HO.o.gr (tg q)) _ [[]] [q0] (by rfl) (eT.one (by simp) ⟨rfl,rfl,HQ.o⟩) (fun b _=>by simp) (by rw[←H.o];unfold maxLen;simp;omega) (by rw[←H.o];simp;omega) ?_;intro v3 w3 O h2 h3 X;replace O:=Kz O;replace X:=Kz X;clear h2 h3))
    refine⟨⟨k+1,fps++[[]],by omega,Kz (by rw[List.flatten_append,HF.o];rfl),Kz (bK.o K.o),X.o,?_,by go_num⟩,by simp[intOf];omega⟩;rw[cK.o,H.o];exact O.o
   ·rw[bz D]
    have K:=Kz (show¬pW s1[k] by rw[←U.o];exact D);clear D;go_wp2_with fail;go_ret;exact⟨aa (bz fun h=>K.o (h.2.2.1 _ aS.o)).symm,J.o.trans q.o⟩
  ·obtain rfl:k=s1.length:=by omega
   rw[take_length] at HA H;obtain⟨fq,O,h2⟩:=HO.o.fresh (by rw[take_length,←H.o];unfold bn;omega) (by rw[HF.o];exact aY.nil _);rw[take_length] at O;have H1:=Kz O;clear O h2;go_wp2_with fail;refine(dN _ aN _).mono ?_;rintro e w' ⟨rfl,g2⟩;have q:=Kz g2;clear g2
   rename World=>W2
   by_cases Y:dh Z
   ·rw[bQ Y]
    have HN:=Kz Y;clear Y
    by_cases X:(L.length:Int)≤4
    ·go_wp2_with fail
     refine(AR (s1.map Prod.fst) _ (H1.o.gr q.o)).mono ?_;rintro e w' ⟨rfl,g3⟩;have cO:=Kz g3;clear g3;go_wp2_with fail;go_ret;exact⟨aa (iO (G6.trans ⟨fun h=>⟨HN.o,by show s1.length≤4;rw[H.o] at X;simp at X;omega,HA.o,h⟩,fun h=>h.2.2.2⟩)),(J.o.trans q.o).trans cO.o⟩
    ·go_wp2_with fail
     go_ret;exact⟨aa (bz fun h=>by have h2:s1.length≤4:=h.2.1;have h3:=bq.o;omega).symm,J.o.trans q.o⟩
   ·rw[bz Y]
    have HN:=Kz Y;clear Y;go_wp2_with fail;go_ret;exact⟨aa (bz fun h=>HN.o h.1).symm,J.o.trans q.o⟩
end Go.Proofs.YtdhighcpmcdmmaaGreat
