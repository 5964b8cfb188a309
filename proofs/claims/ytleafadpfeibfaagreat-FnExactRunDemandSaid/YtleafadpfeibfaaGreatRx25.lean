/- Contracts and laws towards ReadsOf, part 25 of 54. No condition. -/
import Derived.Test.YtleafadpfeibfaaGreatRx22
import Derived.Test.YtleafadpfeibfaaGreatRx21
set_option maxHeartbeats 32000000
set_option maxRecDepth 10000
set_option linter.unusedVariables false
set_option linter.unusedSimpArgs false
namespace Go.Proofs.YtleafadpfeibfaaGreat
open Go.RowKit
open _root_.List (getElem_mem getElem_take take_length)
open _root_.Nat (le_refl)
variable{d:Nat}
variable{k:Nat}{w:World}
theorem BD(fp:List Nat)(cs:Array Value)(x:aA d)(w:World)(K:Rd.rd fp w cs.toList x)(X:aS x≤1048576):Qz 291 #[.agg cs] w (.bool (pB (jJ x))):=by
 obtain⟨q0,q1,q2,q3,q4,q5,q6,ai,aj,ak,rfl,rfl,-,au,ax,ay,aZ,bg,bq,Y,O,T⟩:=KU K;have U:=Y.op3;have Z:=Kz K;clear K;have hw:q4.size+q5.size+wtL (wtE d) q6≤1048576:=X;have ae:q4.size≤2097152:=by omega
 have ah:q5.size≤2097152:=by omega
 clear X hw;rw[←jd];obtain⟨bB,D⟩:=nm (pB (xJ ((q0,q1,q2,q3,q4,q5,q6):aA d)));rw[←D];obtain⟨R,V⟩:=nm (jg q0 q1 q2 q3 bB (pB (eG q1 q3)) (pB (dh q4)) (pB (dh q5)));rw[←V];have I:=Kz V;have J:=Kz D;clear V D;delta Qz;go_in;go_wp2_with fail;refine(fI _ _ _ _).mono ?_;rintro e w' ⟨rfl,rfl⟩
 by_cases B:1≤q0∧q0≤8
 ·have hb:(decide (1≤q0)&&decide (q0≤8))=true:=by rw[decide_eq_true B.1,decide_eq_true B.2];rfl
  rw[hb];have q:=Kz hb;clear hb B;go_wp2_with fail;refine(BH _ _ (q0,q1,q2,q3,q4,q5,q6) _ (Rd.gr Z.o gd)).mono ?_;rintro e w' ⟨rfl,x1,rfl⟩;rw[←J.o]
  cases bB with
  |false=>
   go_wp2_with fail;go_ret;exact⟨aa (by rw[I.o];unfold jg;rw[q.o];rfl),gd⟩
  |true=>
   go_wp2_with (first|(go_at_call 96;refine(fI _ _ _ _).mono ?_;rintro e w' ⟨rfl,rfl⟩)|(go_at_call 125;refine(wU _ _ _).mono ?_;rintro e w' ⟨rfl,x2,rfl⟩)|(go_at_call_of 231 q5;refine(dN _ ah _).mono ?_;rintro e w' ⟨rfl,x3,rfl⟩)|(go_at_call_of 231 q4;refine(dN _ ae _).mono ?_;rintro e w' ⟨rfl,x4,rfl⟩))
   go_ways
   all_goals
    go_ret;refine⟨aa ?_,gd⟩;rw[I.o];unfold jg;rw[q.o];clear I q J Z O T U
    first|(simp_all;done)|(simp_all;intros;omega)|(simp_all;simp only[Bool.and_eq_false_iff,decide_eq_false_iff_not];omega)
 ·have hb:(decide (1≤q0)&&decide (q0≤8))=false:=Bool.and_eq_false_iff.2 (by by_cases h:1≤q0<;>simp_all<;>omega)
  rw[hb];have q:=Kz hb;clear hb B;go_wp2_with fail;go_ret;exact⟨aa (by rw[I.o];unfold jg;rw[q.o];rfl),gd⟩
theorem dD{α:Type}{P:α→Prop}{xs:List α}(h:k<xs.length)(hk:∀z∈xs.take k,P z)(q:P xs[k]):∀z∈xs.take (k+1),P z:=by
 intro z hz
 rw[List.take_succ_eq_append_getElem h,List.mem_append,List.mem_singleton] at hz;rcases hz with hz|rfl
 ·exact hk z hz
 ·exact q
theorem lZ{p:Prop}{q:Prop}[Decidable q](h:p↔q):pB p=decide q:=by
 rw[Bool.eq_iff_iff,dx,decide_eq_true_iff,h]
theorem xw(hE:∀(fp:List Nat) (cs:Array Value) (x:GE d) (w:World) (X:Rd.rd fp w cs.toList x) (Y:wtE d x≤1048576),Qz 274 #[.agg cs] w (.bool (pB (jh (fun{d} (y:aA d)=>jJ y) d x))))
  (fp:List Nat) (cs:Array Value) (x:aA d) (w:World) (X:Rd.rd fp w cs.toList x) (Y:aS x≤1048576):Qz 274 #[.agg cs] w (.bool (pB (jh (fun{d} (y:aA d)=>jJ y) (d+1) x))):=by
 obtain⟨q0,q1,q2,q3,q4,q5,q6,Z,ae,dS,rfl,rfl,-,dV,fe,fu,gD,gF,gT,ah,cO,dB⟩:=KU X;have V:=ah.op3;have HX:=Kz X;have aj:=Kz ah;clear X;have hw:q4.size+q5.size+wtL (wtE d) q6≤1048576:=Y;have HL:=Kz Y;have ak:=Kz hw;clear Y hw;rw[iO (AL (p:=fun{d} (y:aA d)=>jJ y))];delta Qz;go_in;go_wp2_with fail;generalize D:w.alloc (.cells #[.int .i64 q0,.int .i64 q1,.int .i64 q2,.int .i64 q3,.string q4,.string q5,.slice Z q6.length ae] 165)=B;have gB:Gr w B:=gb D;have b0:B.cell? ⟨w.heap.size,0,none⟩=some (.int .i64 q0):=by rw[←D];exact aJ rfl rfl
 have b1:B.cell? ⟨w.heap.size,1,none⟩=some (.int .i64 q1):=by rw[←D];exact aJ rfl rfl
 have b2:B.cell? ⟨w.heap.size,2,none⟩=some (.int .i64 q2):=by rw[←D];exact aJ rfl rfl
 have b3:B.cell? ⟨w.heap.size,3,none⟩=some (.int .i64 q3):=by rw[←D];exact aJ rfl rfl
 have b4:B.cell? ⟨w.heap.size,4,none⟩=some (.string q4):=by rw[←D];exact aJ rfl rfl
 have b5:B.cell? ⟨w.heap.size,5,none⟩=some (.string q5):=by rw[←D];exact aJ rfl rfl
 have b6:B.cell? ⟨w.heap.size,6,none⟩=some (.slice Z q6.length ae):=by rw[←D];exact aJ rfl rfl
 have au:=Kz gB;have O:=Kz (And.intro b0 (And.intro b1 (And.intro b2 (And.intro b3 (And.intro b4 (And.intro b5 b6))))));clear D gB b0 b1 b2 b3 b4 b5 b6
 go_loopw [3] (fun s3 wr=>∃(k:Nat),k≤q6.length∧Ky (∀z∈q6.take k,jh (fun{d} (y:aA d)=>jJ y) d z)∧Ky (Gr B wr)∧s3=.int .i64 k) (fun s3 _=>q6.length - (intOf s3).toNat)
 case atStart=>exact⟨0,by omega,Kz (fun z hz=>by simp at hz),Kz (Gr.refl _),rfl⟩
 case round=>
  obtain⟨k,hk,HA,I,rfl⟩:=hrel
  rename World=>W1
  have y0:=I.o.keep O.o.1;have y1:=I.o.keep O.o.2.1;have y2:=I.o.keep O.o.2.2.1;have y3:=I.o.keep O.o.2.2.2.1;have y4:=I.o.keep O.o.2.2.2.2.1;have y5:=I.o.keep O.o.2.2.2.2.2.1;have y6:=I.o.keep O.o.2.2.2.2.2.2;have J:=Kz (au.o.trans I.o)
  by_cases K:k<q6.length
  ·have ax:=dI (wtE d) q6 K
   have ay:=Kz (show wtE d q6[k]≤1048576 by have:=ak.o;omega);have aZ:=Kz (fun h=>dD K HA.o h);have ai:=Kz (getElem_mem K);clear ax
   obtain⟨d1,rfl⟩:∃e,d=e+1:=by
    cases d with
    |zero=>exact PEmpty.elim (q6[k])
    |succ e=>exact⟨e,rfl⟩
   obtain⟨b,off,rfl,hb⟩:=V k K;obtain⟨p0,p1,p2,p3,p4,p5,p6,gV,gX,ik,kr,bg,bq,bB,bH,bL,bR,bX,cB,cK,-,-,z0,z1,z2,z3,z4,z5,z6,zb⟩:=Lc aj.o K J.o;have k0:(0:Int)≤(k:Int):=by omega
   have k1:(k:Int)<(q6.length:Int):=by omega
   have iw:=zI1 k (by omega);clear V bB bH bL bR bX cB cK;go_wp2_with fail;refine(hE _ _ q6[k] _ (Rd.gr (by rw[←bg.o];exact bq.o) J.o) ay.o).mono ?_;rintro e w' ⟨rfl,g2⟩;have U:=Kz g2;clear g2
   by_cases q:jh (fun{d} (y:aA d)=>jJ y) (d1+1) q6[k]
   ·rw[bQ q]
    have T:=Kz q;clear q;go_wp2_with fail;exact⟨⟨k+1,by omega,Kz (aZ.o T.o),Kz (I.o.trans U.o),by go_num⟩,by simp[intOf];omega⟩
   ·rw[bV q]
    have T:=Kz q;clear q;go_wp2_with fail;go_ret;exact⟨aa (bV fun h=>T.o (h.2 _ ai.o)).symm,J.o.trans U.o⟩
  ·obtain rfl:k=q6.length:=by omega
   rw[take_length] at HA;go_wp2_with fail;refine(BD _ _ (q0,q1,q2,q3,q4,q5,q6) _ (Rd.gr HX.o J.o) HL.o).mono ?_;rintro e w' ⟨rfl,g2⟩;have U:=Kz g2;clear g2;go_wp2_with fail;go_ret;exact⟨aa (iO ⟨fun h=>h.1,fun h=>⟨h,HA.o⟩⟩).symm,J.o.trans U.o⟩
theorem uC:(d:Nat)→∀(fp:List Nat) (cs:Array Value) (x:GE d) (w:World) (h:Rd.rd fp w cs.toList x) (q:wtE d x≤1048576),Qz 274 #[.agg cs] w (.bool (pB (jh (fun{d} (y:aA d)=>jJ y) d x)))
 |0=>by intro fp cs x;exact PEmpty.elim x
 |d+1=>xw (uC d)
theorem qf(n:Int)(hE:∀(fp:List Nat) (cs:Array Value) (x:GE d) (w:World) (Z:Rd.rd fp w cs.toList x) (hl:wtE d x≤1048576),Qz 256 #[.agg cs,.int .i64 n] w (.bool (pB (jh (fun{d} (y:aA d)=>y.2.2.1≤n) d x))))
  (fp:List Nat) (cs:Array Value) (x:aA d) (w:World) (Z:Rd.rd fp w cs.toList x) (hl:aS x≤1048576):Qz 256 #[.agg cs,.int .i64 n] w (.bool (pB (jh (fun{d} (y:aA d)=>y.2.2.1≤n) (d+1) x))):=by
 obtain⟨q0,q1,q2,q3,q4,q5,q6,U,V,cO,rfl,rfl,-,dB,dS,dV,fe,fu,gD,X,cB,cK⟩:=KU Z;have O:=X.op3;have ah:=Kz X;clear Z;have hw:q4.size+q5.size+wtL (wtE d) q6≤1048576:=hl;have ai:=Kz hw;clear hl hw;rw[iO (AL (p:=fun{d} (y:aA d)=>y.2.2.1≤n))];delta Qz;go_in;go_wp2_with fail;generalize D:w.alloc (.cells #[.int .i64 q0,.int .i64 q1,.int .i64 q2,.int .i64 q3,.string q4,.string q5,.slice U q6.length V] 165)=B;have gB:Gr w B:=gb D;have b0:B.cell? ⟨w.heap.size,0,none⟩=some (.int .i64 q0):=by rw[←D];exact aJ rfl rfl
 have b1:B.cell? ⟨w.heap.size,1,none⟩=some (.int .i64 q1):=by rw[←D];exact aJ rfl rfl
 have b2:B.cell? ⟨w.heap.size,2,none⟩=some (.int .i64 q2):=by rw[←D];exact aJ rfl rfl
 have b3:B.cell? ⟨w.heap.size,3,none⟩=some (.int .i64 q3):=by rw[←D];exact aJ rfl rfl
 have b4:B.cell? ⟨w.heap.size,4,none⟩=some (.string q4):=by rw[←D];exact aJ rfl rfl
 have b5:B.cell? ⟨w.heap.size,5,none⟩=some (.string q5):=by rw[←D];exact aJ rfl rfl
 have b6:B.cell? ⟨w.heap.size,6,none⟩=some (.slice U q6.length V):=by rw[←D];exact aJ rfl rfl
 have aj:=Kz gB;have HB:=Kz (And.intro b0 (And.intro b1 (And.intro b2 (And.intro b3 (And.intro b4 (And.intro b5 b6))))));clear D gB b0 b1 b2 b3 b4 b5 b6
 go_loopw [5] (fun s3 wr=>∃(k:Nat),k≤q6.length∧Ky (∀z∈q6.take k,jh (fun{d} (y:aA d)=>y.2.2.1≤n) d z)∧Ky (Gr B wr)∧s3=.int .i64 k) (fun s3 _=>q6.length - (intOf s3).toNat)
 case atStart=>exact⟨0,by omega,Kz (fun z hz=>by simp at hz),Kz (Gr.refl _),rfl⟩
 case round=>
  obtain⟨k,hk,HA,T,rfl⟩:=hrel
  rename World=>W1
  have y2:=T.o.keep HB.o.2.2.1;have y6:=T.o.keep HB.o.2.2.2.2.2.2;have K:=Kz (aj.o.trans T.o)
  by_cases I:k<q6.length
  ·have ak:=dI (wtE d) q6 I
   have au:=Kz (show wtE d q6[k]≤1048576 by have:=ai.o;omega);have ax:=Kz (fun h=>dD I HA.o h);have ae:=Kz (getElem_mem I);clear ak
   obtain⟨d1,rfl⟩:∃e,d=e+1:=by
    cases d with
    |zero=>exact PEmpty.elim (q6[k])
    |succ e=>exact⟨e,rfl⟩
   obtain⟨b,off,rfl,hb⟩:=O k I;obtain⟨p0,p1,p2,p3,p4,p5,p6,gF,gT,gV,gX,ay,aZ,bg,bq,bB,bH,bL,bR,bX,-,-,z0,z1,z2,z3,z4,z5,z6,zb⟩:=Lc ah.o I K.o;have k0:(0:Int)≤(k:Int):=by omega
   have k1:(k:Int)<(q6.length:Int):=by omega
   have iw:=zI1 k (by omega);clear O bg bq bB bH bL bR bX;go_wp2_with fail;refine(hE _ _ q6[k] _ (Rd.gr (by rw[←ay.o];exact aZ.o) K.o) au.o).mono ?_;rintro e w' ⟨rfl,g2⟩;have Y:=Kz g2;clear g2
   by_cases q:jh (fun{d} (y:aA d)=>y.2.2.1≤n) (d1+1) q6[k]
   ·rw[bQ q]
    have J:=Kz q;clear q;go_wp2_with fail;exact⟨⟨k+1,by omega,Kz (ax.o J.o),Kz (T.o.trans Y.o),by go_num⟩,by simp[intOf];omega⟩
   ·rw[bV q]
    have J:=Kz q;clear q;go_wp2_with fail;go_ret;exact⟨aa (bV fun h=>J.o (h.2 _ ae.o)).symm,K.o.trans Y.o⟩
  ·obtain rfl:k=q6.length:=by omega
   rw[take_length] at HA;go_wp2_with fail
   all_goals
    go_ret;refine⟨aa (lZ ?_).symm,K.o⟩;exact⟨fun h=>h.1,fun h=>⟨h,HA.o⟩⟩
theorem og(n:Int):(d:Nat)→∀(fp:List Nat) (cs:Array Value) (x:GE d) (w:World) (h:Rd.rd fp w cs.toList x) (q:wtE d x≤1048576),Qz 256 #[.agg cs,.int .i64 n] w (.bool (pB (jh (fun{d} (y:aA d)=>y.2.2.1≤n) d x)))
 |0=>by intro fp cs x;exact PEmpty.elim x
 |d+1=>qf n (og n d)
theorem qM(fp:List Nat)(cs:Array Value)(x:aA d)(w:World)(Z:Rd.rd fp w cs.toList x)(hl:aS x≤1048576):Qz 255 #[.agg cs] w (.bool (pB (Da x))):=by
 obtain⟨q0,q1,q2,q3,q4,q5,q6,U,V,au,rfl,rfl,-,ax,ay,aZ,bg,bq,bB,bH,aj,ak⟩:=KU Z;have HX:=Kz Z;clear Z;have HL:=Kz hl;have X:=Eb (d+1) (q0,q1,q2,q3,q4,q5,q6)
 have Y:iP (d+1) (q0,q1,q2,q3,q4,q5,q6)≤2097152:=by
  have h1:iP (d+1) (q0,q1,q2,q3,q4,q5,q6)≤aS ((q0,q1,q2,q3,q4,q5,q6):aA d)+1:=X;omega
 have ae:=Kz Y;obtain⟨D,hD⟩:=nm (iP (d+1) (q0,q1,q2,q3,q4,q5,q6));obtain⟨C,hC⟩:=nm (cZ (d+1) (q0,q1,q2,q3,q4,q5,q6));have HD:=Kz hD;have HC:=Kz hC;clear hl X Y hD hC;delta Qz;go_in;go_wp2_with fail;generalize I:w.alloc (.cells #[.int .i64 q0,.int .i64 q1,.int .i64 q2,.int .i64 q3,.string q4,.string q5,.slice U q6.length V] 165)=B;have gB:Gr w B:=gb I;have b0:B.cell? ⟨w.heap.size,0,none⟩=some (.int .i64 q0):=by rw[←I];exact aJ rfl rfl
 have b1:B.cell? ⟨w.heap.size,1,none⟩=some (.int .i64 q1):=by rw[←I];exact aJ rfl rfl
 have b2:B.cell? ⟨w.heap.size,2,none⟩=some (.int .i64 q2):=by rw[←I];exact aJ rfl rfl
 have b3:B.cell? ⟨w.heap.size,3,none⟩=some (.int .i64 q3):=by rw[←I];exact aJ rfl rfl
 have b4:B.cell? ⟨w.heap.size,4,none⟩=some (.string q4):=by rw[←I];exact aJ rfl rfl
 have b5:B.cell? ⟨w.heap.size,5,none⟩=some (.string q5):=by rw[←I];exact aJ rfl rfl
 have b6:B.cell? ⟨w.heap.size,6,none⟩=some (.slice U q6.length V):=by rw[←I];exact aJ rfl rfl
 have q:=Kz gB;have J:=Kz (And.intro b0 (And.intro b1 (And.intro b2 (And.intro b3 (And.intro b4 (And.intro b5 b6))))));clear I gB b0 b1 b2 b3 b4 b5 b6;have K:=Kz (Gr.refl B);have y0:=K.o.keep J.o.1;have y1:=K.o.keep J.o.2.1;have y2:=K.o.keep J.o.2.2.1;have y3:=K.o.keep J.o.2.2.2.1;have y4:=K.o.keep J.o.2.2.2.2.1;have y5:=K.o.keep J.o.2.2.2.2.2.1;have y6:=K.o.keep J.o.2.2.2.2.2.2;have zy:=blk y0;refine(uk (rP d) _ _ (q0,q1,q2,q3,q4,q5,q6) 24 _ (Rd.gr HX.o q.o) (by omega) (by omega)).mono ?_;rintro e w' ⟨r,rfl,bL,O,T,x1,rfl⟩;rw[←HC.o] at O T;have ah:=Kz O;have ai:=Kz T;clear O T
 by_cases h0:0≤r
 ·go_wp2_with fail
  refine(rW (pX d) _ _ (q0,q1,q2,q3,q4,q5,q6) _ (Rd.gr HX.o (tg q)) ae.o).mono ?_;rintro e w' ⟨rfl,x2,rfl⟩;rw[←HD.o]
  by_cases h6:(D:Int)≤6
  ·go_wp2_with fail
   refine(xw (uC d) _ _ (q0,q1,q2,q3,q4,q5,q6) _ (Rd.gr HX.o (tg q)) HL.o).mono ?_;rintro e w' ⟨rfl,x3,rfl⟩;go_wp2_with fail;go_ret;refine⟨aa (iO ⟨fun h=>h.2.2,fun h=>⟨?_,?_,h⟩⟩).symm,q.o.trans gd⟩
   ·rw[←HC.o]
    rcases Int.lt_or_le 24 (C:Int) with h|h
    ·have:=ai.o h;omega
    ·omega
   ·rw[←HD.o];omega
  ·go_wp2_with fail
   go_ret;exact⟨aa (bV fun h=>by have h1:=h.2.1;rw[←HD.o] at h1;omega).symm,q.o.trans gd⟩
 ·go_wp2_with fail
  go_ret;exact⟨aa (bV fun h=>by have h1:=h.1;rw[←HC.o] at h1;have:=ah.o (by omega);omega).symm,q.o.trans gd⟩
theorem jy(fp:List Nat)(cs:Array Value)(x:aA d)(n:Int)(w:World)(q:Rd.rd fp w cs.toList x)(D:aS x≤1048576):Qz 233 #[.agg cs,.int .i64 n] w (.bool (pB (ko n x))):=by
 have I:=Kz D;obtain⟨q0,q1,q2,q3,q4,q5,q6,T,U,V,rfl,rfl,-,X,Y,Z,ae,ah,ai,aj,K,O⟩:=KU q;have J:=Kz q;clear q;clear D;delta Qz;go_in;go_wp2_with fail;refine(qM _ _ (q0,q1,q2,q3,q4,q5,q6) _ (Rd.gr J.o gd) I.o).mono ?_;rintro e w' ⟨rfl,x1,rfl⟩
 by_cases hv:Da ((q0,q1,q2,q3,q4,q5,q6):aA d)
 ·rw[bQ hv]
  have B:=Kz hv;clear hv;go_wp2_with fail;refine(qf n (og n d) _ _ (q0,q1,q2,q3,q4,q5,q6) _ (Rd.gr J.o gd) I.o).mono ?_;rintro e w' ⟨rfl,x2,rfl⟩;go_wp2_with fail;go_ret;exact⟨aa (iO ⟨fun h=>h.2,fun h=>⟨B.o,h⟩⟩).symm,gd⟩
 ·rw[bV hv]
  have B:=Kz hv;clear hv;go_wp2_with fail;go_ret;exact⟨aa (bV fun h=>B.o h.1).symm,gd⟩
theorem Tryz.Ac:(Tryz.prog.info? 9).map (fun i=>(i.zero,i.size,i.bytes))=some (some (.string ByteArray.empty),1,16):=by kernel_rfl
theorem SlR.pre{α:Type}[Rd α]{fp:List Nat}{a:Option Addr}{len cap:Nat}{xs:List α}(h:SlR fp w (.slice a len cap) xs)(hk:k≤xs.length):∃fq,SlR fq w (.slice a k cap) (xs.take k)∧∀c∈fq,c∈fp:=by
 obtain⟨a',I,hv,h1,h2,J⟩:=h;injection hv with K e2 O;subst K O;have q:(xs.take k).length=k:=by simp;omega
 by_cases T:k=0
 ·subst T
  exact⟨[],⟨a,cap,by simp,by simp,by simp,.inl ⟨by simp,rfl⟩⟩,by simp⟩
 ·rcases J with⟨rfl,_⟩|⟨b,off,fps,Y,rfl,rfl,hlen,B,U⟩
  ·simp at hk;omega
  ·refine⟨b::(fps.take k).flatten,⟨some ⟨b,off,none⟩,cap,by rw[q],by rw[q];omega,by rw[q];omega,.inr ⟨b,off,fps.take k,fun e=>by rw[e] at q;simp at q;omega,rfl,rfl,by simp;omega,fun j V=>B j (Nat.lt_of_lt_of_le V (Nat.mul_le_mul_right _ (by omega))),fun i hi Z=>?_⟩⟩,fun c hc=>?_⟩
   ·have ae:i<k:=by omega
    obtain⟨cs,hc,hr⟩:=U i (by omega) (by omega);exact⟨cs,hc,by simpa using hr⟩
   ·rcases List.mem_cons.1 hc with h|h
    ·rw[h];simp
    ·obtain⟨f,X,D⟩:=List.mem_flatten.1 h
     exact List.mem_cons_of_mem _ (List.mem_flatten.2 ⟨f,List.mem_of_mem_take X,D⟩)
theorem lK{α:Type}{f:α→ByteArray}{xs:List α}(h:k<xs.length)(D:kM f (xs.take k))(hn:f xs[k]∉(xs.take k).map f):kM f (xs.take (k+1)):=by
 intro i hi j J q e
 have I:i<k+1:=by simp at hi;omega
 rw[getElem_take,getElem_take] at e
 by_cases B:i=k
 ·subst B
  exact hn (List.mem_map.2 ⟨xs[j],List.mem_iff_getElem.2 ⟨j,by simp;omega,by rw[getElem_take]⟩,e⟩)
 ·exact D i (by simp;omega) j (by simp;omega) q (by rw[getElem_take,getElem_take];exact e)
theorem oC{α:Type}{f:α→ByteArray}{xs:List α}(h:k<xs.length)(hn:f xs[k]∈(xs.take k).map f):¬kM f xs:=by
 intro D
 obtain⟨y,I,e⟩:=List.mem_map.1 hn;obtain⟨j,J,q⟩:=List.mem_iff_getElem.1 I;have B:j<k:=by simp at J;omega
 rw[getElem_take] at q;exact D k h j (by omega) B (by rw[q,e])
def xA(n:Bool)(t m:Int)(c:Bool):Bool:=n&&(decide (1≤t)&&decide (t≤4))&&(decide (1≤m)&&decide (m≤3))&&(!(m==3)||((t==2)&&!c))&&(!c||(t==2))
theorem Aj(a:aQ):xA (pB (dh a.1)) a.2.1 a.2.2.1 a.2.2.2=pB (pW a):=by
 obtain⟨q0,q1,q2,q3⟩:=a;rw[Bool.eq_iff_iff,dx]
 show xA (pB (dh q0)) q1 q2 q3=true↔dh q0∧(1≤q1∧q1≤4)∧(1≤q2∧q2≤3)∧(q2=3→q1=2∧q3=false)∧(q3=true→q1=2)
 unfold xA
 cases q3<;>by_cases h:q2=3<;>by_cases q:q1=2<;>simp[dx,h,q,and_assoc]
theorem xW(fp:List Nat)(cs:Array Value)(x:aQ)(w:World)(q:Rd.rd fp w cs.toList x)(B:bI x≤1048576):Qz 230 #[.agg cs] w (.bool (pB (pW x))):=by
 rw[←Aj];obtain⟨R,h⟩:=nm (xA (pB (dh x.1)) x.2.1 x.2.2.1 x.2.2.2);rw[←h];have D:=Kz h;clear h;obtain⟨q0,q1,q2,q3⟩:=x;obtain⟨rfl,-,-,-,-⟩:=aR (cs:=cs) q0 q1 q2 q3 q;have I:q0.size≤2097152:=by have:q0.size≤1048576:=B;omega
 clear B q;delta Qz;go_in
 go_wp2_with (first|(go_at_call 96;refine(fI _ _ _ _).mono ?_;rintro e w' ⟨rfl,rfl⟩)|(go_at_call 231;refine(dN _ I _).mono ?_;rintro e w' ⟨rfl,J,rfl⟩))
 go_ways
 all_goals
  go_ret;refine⟨aa ?_,gd⟩;rw[D.o];unfold xA;clear D
  first|(simp_all;done)|(simp_all;intros;omega)|(cases q3<;>simp_all<;>intros<;>omega)
theorem AR{fp:List Nat}{u:Value}(xs:List ByteArray)(w:World)(hu:SlR fp w u xs):
  Qz 232 #[u] w (.bool (pB (kM id xs))):=by
 have U:=Kz hu;obtain⟨a,c,rfl,k1,k2,Z⟩:=hu.open;clear hu;delta Qz;go_in;go_wp2_with fail
 go_loopw [3] (fun I wr=>∃k:Nat,k≤xs.length∧Ky (kM id (xs.take k))∧Ky (Gr w wr)∧I=.int .i64 k) (fun I _=>xs.length - (intOf I).toNat)
 case atStart=>exact⟨0,by omega,Kz (by intro i h;simp at h),Kz (Gr.refl _),rfl⟩
 case round=>
  obtain⟨k,hk,J,B,rfl⟩:=hrel
  rename World=>W1
  by_cases q:k<xs.length
  ·obtain⟨b,off,rfl,hb⟩:=Z k q
   have V:=B.o.keep (U.o.jl q).1;obtain⟨y,K⟩:=nm (xs[k]);rw[←K] at V;have X:=Kz K;clear K;obtain⟨fq,D,-⟩:=U.o.pre hk;have O:=Kz (D.gr B.o);clear D;have z1:=blk V;have k0:(0:Int)≤(k:Int):=by omega
   have ae:(k:Int)<(xs.length:Int):=by omega
   have iw:=zI1 k (by omega);go_wp2_with fail;refine wg ?_
   repeat(go_big_quiet_step ((go_at_call 192;refine aG (mi (xs.take k) y _ (O.o.gr ?_))<;>exact gd)))
   refine wq fun nx=>?_
   by_cases hm:y∈xs.take k
   ·rw[bQ hm]
    have T:=Kz hm;clear hm;go_wp2_with fail;go_ret;refine⟨aa (bV fun h=>?_).symm,B.o.trans gd⟩;obtain⟨j,hj,e⟩:=List.mem_iff_getElem.1 T.o;have Y:j<k:=by simp at hj;omega
    refine h k q j (by omega) Y ?_
    rw[getElem_take] at e
    show xs[j]=xs[k]
    rw[e,X.o]
   ·rw[bV hm]
    have T:=Kz hm;clear hm;go_wp2_with fail;refine⟨⟨k+1,by omega,Kz (lK (f:=id) q J.o (fun h=>T.o (by rw[X.o];simpa using h))),Kz (tg B),by go_num⟩,by simp[intOf];omega⟩
  ·obtain rfl:k=xs.length:=by omega
   rw[take_length] at J;go_wp2_with fail;go_ret;exact⟨aa (bQ J.o).symm,B.o⟩
theorem G6{α:Type}{f:α→ByteArray}{xs:List α}:kM id (xs.map f)↔kM f xs:=by
 constructor
 ·intro h i hi j B q e
  exact h i (by simpa using hi) j (by simpa using B) q (by simpa using e)
 ·intro h i hi j B q e
  exact h i (by simpa using hi) j (by simpa using B) q (by simpa using e)
theorem CJ(fs:List Nat)(cs:Array Value)(s:bC)(w:World)(hs:Rd.rd fs w cs.toList s)(hl:bM s≤1048576):Qz 191 #[.agg cs] w (.bool (pB (Dv s))):=by
 obtain⟨i0,hi⟩:=info_parts Tryz.Ac;have HZ:=Kz hi;clear hi;obtain⟨Y,s1,ah,ai,gD,rfl,rfl,-,gF,aj,fe,fu⟩:=Lg hs;have ax:=aj.op3;clear hs;have ak:Y.size+wtL bI s1≤1048576:=hl;have ay:Y.size≤2097152:=by omega
 have gT:s1.length≤1048576:=by have:=bT bI s1;omega
 have HL:=Kz ak;clear hl ak;delta Qz;go_in;go_wp2_with fail;generalize hB:(w.alloc (.cells #[.string Y,.slice ah s1.length ai] 123))=B;have gB:Gr w B:=gb hB;obtain⟨bg,bq⟩:=kb2 hB (w.heap.size) (.string Y) (.slice ah s1.length ai);have sB:B.heap.size=w.heap.size+1:=szB hB;clear hB
 go_loopw [4,3] (fun s6 s5 wr=>∃(k:Nat) (fps:List (List Nat)),k≤s1.length∧Ky (fps.flatten=[])∧Ky (∀a∈s1.take k,pW a)∧Gr B wr∧bE (α:=ByteArray) B 9 wr s5 fps ((s1.take k).map Prod.fst)∧s6=.int .i64 k) (fun s6 _ _=>s1.length - (intOf s6).toNat)
 case atStart=>exact⟨0,[],by omega,Kz rfl,Kz (by simp),gd,bE.kF (α:=ByteArray) (w0:=B) (w:=B) 9 (le_refl _) (by omega),rfl⟩
 case round=>
  obtain⟨k,fps,hk,HF,HA,I,hown,rfl⟩:=hrel
  rename World=>W1
  have bB:=Kz I;have HO:=Kz hown;obtain⟨L,hL⟩:=nm ((s1.take k).map Prod.fst);have au:L.length=k:=by rw[hL];simp;omega
  have gV:L.length≤1048576:=by omega
  have bH:=Kz au;clear au;obtain⟨ra,rc,U⟩:=hown.form;rw[←hL] at U;subst U;have J:=Kz hL;have y0:=bg _ I;have y1:=bq _ I;have bL:=blk y1;have Z:=gB.trans I;have O:=Kz Z;clear I hown hL
  by_cases K:k<s1.length
  ·have bR:=dI bI s1 K
   have bX:=Kz (show bI s1[k]≤1048576 by have:=HL.o;omega);have cB:=Kz (fun h=>dD K HA.o h);have aZ:=Kz (getElem_mem K);clear bR;obtain⟨b,off,rfl,gX⟩:=ax k K;obtain⟨q0,q1,q2,q3,V,cK,cO,ik,kr,ae,ku,ky,lq,dB⟩:=K5 aj K Z;have k0:(0:Int)≤(k:Int):=by omega
   have k1:(k:Int)<(s1.length:Int):=by omega
   have iw:=zI1 k (by omega);have HQ:=Kz cO
   have dS:=Kz (show(s1.take (k+1)).map Prod.fst=L++[q0] by
    rw[List.take_succ_eq_append_getElem K,List.map_append,J.o,←V.o];rfl)
   clear Z;go_wp2_with fail;refine(xW _ _ (q0,q1,q2,q3) _ (Rd.gr cK.o O.o) (by rw[V.o];exact bX.o)).mono ?_;rintro e w' ⟨rfl,g2⟩;have q:=Kz g2;clear g2
   rename World=>W2
   by_cases D:pW (q0,q1,q2,q3)
   ·rw[bQ D]
    have T:=Kz (show pW s1[k] by rw[←V.o];exact D);clear D;replace y0:=q.o.keep y0;replace y1:=q.o.keep y1;replace bL:=blk y1;replace ae:=q.o.keep ae;replace dB:=blk ae
    go_wp2_with (first|(at_builtin;refine bP (α:=ByteArray) (w0:=B) ((bB.o.trans q.o).trans gd) rfl _ _ 108 rfl 9 i0 _ _ Tryz.underlying108 HZ.o.1 HZ.o.2.1 HZ.o.2.2.1 HZ.o.2.2.2 rfl _ fps _ (by rfl) (HO.o.gr (tg q)) _ [[]] [q0] (by rfl) (eT.one (by simp) ⟨rfl,rfl,HQ.o⟩) (fun b _=>by simp) (by rw[←J.o];unfold maxLen;simp;omega) (by rw[←J.o];simp;omega) ?_;intro v3 w3 h1 h2 h3 X;replace h1:=Kz h1;replace X:=Kz X;clear h2 h3))
    refine⟨⟨k+1,fps++[[]],by omega,Kz (by rw[List.flatten_append,HF.o];rfl),Kz (cB.o T.o),X.o,?_,by go_num⟩,by simp[intOf];omega⟩;rw[dS.o,J.o];exact h1.o
   ·rw[bV D]
    have T:=Kz (show¬pW s1[k] by rw[←V.o];exact D);clear D;go_wp2_with fail;go_ret;exact⟨aa (bV fun h=>T.o (h.2.2.1 _ aZ.o)).symm,O.o.trans q.o⟩
  ·obtain rfl:k=s1.length:=by omega
   rw[take_length] at HA J;obtain⟨fq,h1,h2⟩:=HO.o.fresh (by rw[take_length,←J.o];unfold bn;omega) (by rw[HF.o];exact aY.nil _);rw[take_length] at h1;have H1:=Kz h1;clear h1 h2;go_wp2_with fail;refine(dN _ ay _).mono ?_;rintro e w' ⟨rfl,g2⟩;have q:=Kz g2;clear g2
   rename World=>W2
   by_cases hn:dh Y
   ·rw[bQ hn]
    have HN:=Kz hn;clear hn
    by_cases X:(L.length:Int)≤4
    ·go_wp2_with fail
     refine(AR (s1.map Prod.fst) _ (H1.o.gr q.o)).mono ?_;rintro e w' ⟨rfl,g3⟩;have dV:=Kz g3;clear g3;go_wp2_with fail;go_ret;exact⟨aa (iO (G6.trans ⟨fun h=>⟨HN.o,by show s1.length≤4;rw[J.o] at X;simp at X;omega,HA.o,h⟩,fun h=>h.2.2.2⟩)),(O.o.trans q.o).trans dV.o⟩
    ·go_wp2_with fail
     go_ret;exact⟨aa (bV fun h=>by have h2:s1.length≤4:=h.2.1;have h3:=bH.o;omega).symm,O.o.trans q.o⟩
   ·rw[bV hn]
    have HN:=Kz hn;clear hn;go_wp2_with fail;go_ret;exact⟨aa (bV fun h=>HN.o h.1).symm,O.o.trans q.o⟩
structure zD(w:World)(fid:Nat)(cap:Array Value)(p:{d:Nat}→aA d→Prop):Prop where
 fn:∀args W,(callFunc fid args).run Tryz.prog W=.ok (.enter fid args) W
 calls:∀{d:Nat} (y:aA d) (W:World) (hg:Gr w W) (fp:List Nat) (cs:Array Value),Rd.rd fp W cs.toList y→aS y≤1048576→Calls Tryz.prog fid (#[.agg cs]++cap) W fun e w'=>e=.returned (.bool (pB (p y)))∧Gr W w'
theorem zD.gr{w':World}{q:Nat}{cap:Array Value}{p:{d:Nat}→aA d→Prop}(h:zD w q cap (fun{d} y=>p y))(hg:Gr w w'):zD w' q cap (fun{d} y=>p y):=
 ⟨h.fn,fun y W g fp cs=>h.calls y W (hg.trans g) fp cs⟩
def EW(p:{d:Nat}→aA d→Prop)(d:Nat):Prop:=∀(fp:List Nat) (cs:Array Value) (x:GE d) (h:Nat) (cap:Array Value) (w:World) (ht:zD w h cap (fun{d} y=>p y)) (q:Rd.rd fp w cs.toList x) (B:wtE d x≤1048576),
 Calls Tryz.prog 248 #[.agg cs,.func (.func h) #[] cap] w fun e w'=>e=.returned (.bool (pB (jh (fun{d} y=>p y) d x)))∧Gr w w'
theorem wu{α:Type}{P:α→Prop}{xs:List α}:(xs.any fun y=>!pB (P y))=!pB (∀z∈xs,P z):=by
 by_cases h:∀z∈xs,P z
 ·rw[bQ h]
  rw[Bool.not_true,List.any_eq_false];intro y q
  rw[bQ (h y q)];simp
 ·rw[bV h]
  rw[Bool.not_false,List.any_eq_true];obtain⟨y,q⟩:=Classical.not_forall.1 h;obtain⟨hm,hn⟩:=Classical.not_imp.1 q;exact⟨y,hm,by rw[bV hn];rfl⟩
theorem Dz{p:{d:Nat}→aA d→Prop}(D:EW (fun{d} y=>p y) d)(fp:List Nat)(cs:Array Value)(x:GE d)(h:Nat)(cap:Array Value)(b:Nat)(w:World)(ht:zD w h cap (fun{d} y=>p y))(q:Rd.rd fp w cs.toList x)(B:wtE d x≤1048576)
  (hb:w.cell? ⟨b,0,none⟩=some (.func (.func h) #[] cap)):
  Qz 265 #[.agg cs,.pointer (some ⟨b,0,none⟩)] w (.bool (!pB (jh (fun{d} y=>p y) d x))):=by
 obtain⟨d1,rfl⟩:∃e,d=e+1:=by
  cases d with
  |zero=>exact PEmpty.elim x
  |succ e=>exact⟨e,rfl⟩
 have I:=Kz q;have J:=Kz ht;have K:=Kz B;obtain⟨q0,q1,q2,q3,q4,q5,T,U,V,rfl⟩:=eO (show Rd.rd (α:=aA d1) fp w cs.toList _ from q);have O:=blk hb;clear q ht B;delta Qz;go_in;go_wp2_with fail;refine(D _ _ x h cap _ (J.o.gr gd) (Rd.gr I.o gd) K.o).mono ?_;rintro e w' ⟨rfl,X,rfl⟩;go_wp2_with fail;go_ret;exact⟨rfl,gd⟩
theorem wT{p:{d:Nat}→aA d→Prop}(hE:EW (fun{d} y=>p y) d):EW (fun{d} y=>p y) (d+1):=by
 intro fp cs x J cap w ht U V
 have HL:=Kz V;obtain⟨Y,D⟩:=ht;have Z:=Kz (zD.mk (p:=fun{d} y=>p y) Y (fun{d}=>D));clear D;obtain⟨q0,q1,q2,q3,q4,q5,q6,O,T,au,rfl,rfl,-,ax,ay,aZ,bg,bq,bB,ae,aj,ak⟩:=KU U;have HX:=Kz U;have ah:=Kz ae;clear U;have hw:q4.size+q5.size+wtL (wtE d) q6≤1048576:=V;have ai:=Kz hw;clear V hw;go_in;go_wp2_with fail;generalize K:(w.alloc (.cells #[.int .i64 q0,.int .i64 q1,.int .i64 q2,.int .i64 q3,.string q4,.string q5,.slice O q6.length T] 165)).alloc (.cells #[.func (.func J) #[] cap] 264)=B;have gB:Gr w B:=gb K;have b6:B.cell? ⟨w.heap.size,6,none⟩=some (.slice O q6.length T):=by rw[←K];exact Gr.keep (Gr.alloc (Gr.refl _) _) (aJ rfl rfl)
 have f0:B.cell? ⟨w.heap.size+1,0,none⟩=some (.func (.func J) #[] cap):=by rw[←K];exact aJ (by simp) rfl
 have q:=Kz gB
 have hT:∀W:World,Gr B W→TestExpr W 265 #[.pointer (some ⟨w.heap.size+1,0,none⟩)] (fun y=>!pB (jh (fun{d} y=>p y) d y)) q6:=fun W hg=>
  ⟨Tryz.call265,fun z hz x fp cs hr=>Dz hE fp cs z J cap (w.heap.size+1) _ (Z.o.gr ((q.o.trans hg).trans gd)) hr (by
   obtain⟨j,hj,rfl⟩:=List.mem_iff_getElem.1 hz;have:=dI (wtE d) q6 hj;have:=ai.o;omega) ((hg.trans gd).keep f0)⟩
 have HT:=Kz hT;have zb:=blk b6;clear K gB hT;refine(Z.o.calls (q0,q1,q2,q3,q4,q5,q6) _ q.o _ _ (Rd.gr HX.o q.o) HL.o).mono ?_;rintro e w' ⟨rfl,x1,rfl⟩
 by_cases I:p (q0,q1,q2,q3,q4,q5,q6)
 ·rw[bQ I]
  have X:=Kz I;clear I
  go_wp2_with (first|(go_at_call 223;refine(kK _ _ q6 _ _ (fun y=>!pB (jh (fun{d} y=>p y) d y)) _ (ah.o.gr (tg q)) (HT.o _ gd)).mono ?_;rintro e w' ⟨rfl,x2,rfl⟩))
  go_ret;exact⟨aa (by rw[wu,Bool.not_not];exact(iO (AL.trans ⟨fun h=>h.2,fun h=>⟨X.o,h⟩⟩)).symm),q.o.trans gd⟩
 ·rw[bV I]
  have X:=Kz I;clear I;go_wp2_with fail;go_ret;exact⟨aa (bV fun h=>X.o h.1).symm,q.o.trans gd⟩
theorem sV(p:{d:Nat}→aA d→Prop):(d:Nat)→EW (fun{d} y=>p y) d
 |0=>by intro fp cs x;exact PEmpty.elim x
 |d+1=>wT (sV (fun{d} y=>p y) d)
def vK(ss:List bC)(hs:List Int)(s:ByteArray):Bool:=decide (0≤atS ss s)&&decide (0<hs.getD (atS ss s).toNat 0)
def nU(ss:List bC)(hs:List Int)(n:ByteArray)(r:aW d):Bool:=decide (r.2.1=n)&&r.2.2.1.all (vK ss hs)
def mJ(g:af d)(hs:List Int)(n:ByteArray):Bool:=g.2.any (nU g.1 hs n)
theorem G8(ss:List bC)(n:ByteArray):atS ss n<ss.length∨atS ss n= -1:=by
 unfold atS;generalize(fun s:bC=>decide (s.1=n))=p
 induction ss with
 |nil=>right;rfl
 |cons x xs h=>
  simp only[idxOf,List.length_cons]
  split
  ·left;omega
  ·split<;>omega
def Kj(g:af d)(hs:List Int)(n:ByteArray)(B:World)(k:Nat)(wr:World):Prop:=Gr B wr∧∀j (h:j<g.2.length),j<k→nU g.1 hs n g.2[j]=false
theorem wS{fg fh:List Nat}{cg:Array Value}{vh:Value}(g:af d)(n:ByteArray)(hs:List Int)(w:World)(hg:Rd.rd fg w cg.toList g)(hh:SlR fh w vh hs)(hlen:hs.length=g.1.length):
  Qz 237 #[.agg cg,.string n,vh] w (.bool (mJ g hs n)):=by
 have HH:=Kz hh;obtain⟨ah,kh,rfl,vR,vX,gF⟩:=hh.open;clear hh;have HG:=Kz hg;obtain⟨g0,g1,ag0,kg0,wF,ag1,kg1,wL,rfl,rfl,-,w9,uq,uz,ak,u6,ve⟩:=yt hg;have dS:=ak.op3;clear hg;have dV:=Kz (show hs.length=g0.length from hlen);clear hlen;delta Qz;go_in;go_wp2_with fail;generalize hB:(w.alloc (.cells #[.slice ag0 g0.length kg0,.slice ag1 g1.length kg1] 39))=B;have gB:Gr w B:=gb hB;obtain⟨au,ax⟩:=kb2 hB (w.heap.size) (.slice ag0 g0.length kg0) (.slice ag1 g1.length kg1);clear hB
 go_loopw [7] (fun s7 wr=>∃k:Nat,k≤g1.length∧Kj (g0,g1) hs n B k wr∧s7=.int .i64 k) (fun s7 _=>g1.length - (intOf s7).toNat)
 case atStart=>exact⟨0,by omega,⟨Gr.refl _,fun j h hj=>by omega⟩,rfl⟩
 case round=>
  obtain⟨k,hk,⟨D,hT⟩,rfl⟩:=hrel
  rename World=>W1
  have HT:=Kz hT;have gT:=Kz D;have y0:=au _ D;have y1:=ax _ D;have ay:=blk y1;have U:=gB.trans D;have gV:=Kz U;clear hT D
  by_cases V:k<g1.length
  ·skip
   obtain⟨b,off,rfl,xc⟩:=dS k V;obtain⟨q0,q1,q2,q3,q4,q5,aZ,bg,x9,bq,bB,yc,bR,bX,yu,y5,gX,y7,y8,y9,cB,vB,vD,za,vF,vG,zb,vL,vO,ik,kr,ku,ky,lq,o5,o9⟩:=Lf ak V U;have fe:=cB.op3;have k0:(0:Int)≤(k:Int):=by omega
   have k1:(k:Int)<(g1.length:Int):=by omega
   have iw:=zI1 k (by omega);have qb:=Kz cB;go_wp2_with fail;generalize X:W1.alloc (.cells #[.string q0,.string q1,.slice aZ q2.length bg,.bool q3,.slice bq q4.length bB,.slice bR q5.length bX] 128)=W2;have g12:Gr W1 W2:=gb X;have v2:az W2 W1.heap.size 128 [.string q0,.string q1,.slice aZ q2.length bg,.bool q3,.slice bq q4.length bB,.slice bR q5.length bX]:=by rw[←X];exact az.new rfl
   have q8:=Kz (gT.o.trans g12);have q9:=Kz v2
   have Y:(q1.toList==n.toList)=decide (q1=n):=by
    by_cases h:q1=n
    ·subst h;simp
    ·rw[decide_eq_false h];simpa using fun e=>h (str_inj e)
   rw[Y];have sO:Ky (nU g0 hs n g1[k]=(decide (q1=n)&&q2.all (vK g0 hs))):=Kz (by rw[←gX.o];rfl);clear X g12 v2 y0 y1 ay ik kr ku ky lq o5 o9 U Y
   go_loopw [10,9] (fun Z s9 wr=>∃(m:Nat) (gb:Bool),m≤q2.length∧Gr W2 wr∧Ky (gb=(decide (q1=n)&&(q2.take m).all (vK g0 hs)))∧Z=.int .i64 m∧s9=.bool gb) (fun Z _ _=>q2.length - (intOf Z).toNat)
   case atStart=>exact⟨0,decide (q1=n),by omega,Gr.refl _,Kz (by simp),rfl,rfl⟩
   case round=>
    obtain⟨m,gb,hm,O,cK,rfl,rfl⟩:=hrel
    rename World=>W3
    have T:=Kz (q8.o.trans O);have q:=Kz (gB.trans T.o);have y0:=au _ T.o;have y1:=ax _ T.o;have ay:=blk y1;have d2:=(q9.o.gr O).c 2;have ze:=blk d2;have J:=Kz O;clear O
    by_cases ae:m<q2.length
    ·obtain⟨bL,oL,rfl,zf⟩:=fe m ae
     have cL:=q.o.keep (qb.o.jl ae).1;have zL:=blk cL;have m0:(0:Int)≤(m:Int):=by omega
     have m1:(m:Int)<(q2.length:Int):=by omega
     have zg:=zI1 m (by omega);obtain⟨at_,I⟩:=nm (atS g0 q2[m]);have fu:=G8 g0 q2[m];rw[←I] at fu;have zl:-1≤at_:=by rw[I];exact qU _ _
     have HC:Ky (∀x:Ext,Qz 200 #[.agg #[.slice ag0 g0.length kg0,.slice (some ⟨b,off,none⟩) g1.length kg1],.string q2[m]] (W3.ext x) (.int .i64 at_)):=Kz (fun x=>by
      rw[I];exact sQ (g0,g1) q2[m] _ (Rd.gr HG.o (tg q)))
     have ai:=Kz (show(decide (q1=n)&&(q2.take (m+1)).all (vK g0 hs))=(gb&&(decide (0≤at_)&&decide (0<hs.getD at_.toNat 0))) by
      rw[List.take_succ_eq_append_getElem ae,List.all_append,cK.o,I];simp[vK,Bool.and_assoc])
     clear I;go_wp2_with fail;refine wg ?_
     repeat(go_big_quiet_step (first|(go_at_call 200;exact aG (HC.o _))))
     refine wq fun nx=>?_
     cases gb with
     |false=>
      go_wp2_with fail;exact⟨⟨m+1,false,by omega,J.o.trans gd,Kz (by rw[ai.o];rfl),by go_num,rfl⟩,by simp[intOf];omega⟩
     |true=>
      by_cases h0:0≤at_
      ·obtain⟨a,rfl⟩:∃a:Nat,at_=a:=⟨at_.toNat,by omega⟩
       have aj:a<hs.length:=by have:=dV.o;omega
       obtain⟨bH,oH,rfl,zn⟩:=gF a aj;have cH:=q.o.keep (HH.o.fQ aj).1;have zH:=blk cH;have a1:(a:Int)<(hs.length:Int):=by omega
       have K:=Kz (show(decide (q1=n)&&(q2.take (m+1)).all (vK g0 hs))=decide (0<hs[a]) by
        rw[ai.o,decide_eq_true h0];simp[List.getD_eq_getElem?_getD,List.getElem?_eq_getElem aj])
       go_wp2_with fail;refine(mV _ _ _).mono ?_;rintro e w' ⟨rfl,rfl⟩;have uf:max (a:Int) 0=(a:Int):=by omega
       rw[uf];go_wp2_with fail;exact⟨⟨m+1,decide (0<hs[a]),by omega,J.o.trans gd,Kz K.o.symm,by go_num,rfl⟩,by simp[intOf];omega⟩
      ·have K:=Kz (show(decide (q1=n)&&(q2.take (m+1)).all (vK g0 hs))=false by rw[ai.o,decide_eq_false h0];rfl)
       go_wp2_with fail;exact⟨⟨m+1,false,by omega,J.o.trans gd,Kz K.o.symm,by go_num,rfl⟩,by simp[intOf];omega⟩
    ·have uo:m=q2.length:=by omega
     subst uo;have cO:nU g0 hs n g1[k]=gb:=by rw[sO.o,cK.o,take_length]
     have dB:=Kz cO;clear cO
     cases gb with
     |true=>
      have HE:Ky (mJ (g0,g1) hs n=true):=Kz (by
       unfold mJ;rw[List.any_eq_true];exact⟨g1[k],getElem_mem V,dB.o⟩)
      go_wp2_with fail;go_ret;exact⟨aa HE.o.symm,q.o⟩
     |false=>
      go_wp2_with fail;refine⟨⟨k+1,by omega,⟨T.o,fun j h zo=>?_⟩,by go_num⟩,by simp[intOf];omega⟩
      by_cases gD:j<k
      ·exact HT.o j h gD
      ·obtain rfl:j=k:=by omega
       exact dB.o
  ·have HE:Ky (mJ (g0,g1) hs n=false):=Kz (by
    unfold mJ;rw[List.any_eq_false];intro r hr
    obtain⟨j,hj,rfl⟩:=List.mem_iff_getElem.1 hr;have:=HT.o j hj (by have:j<g1.length:=hj;omega);simpa using this)
   go_wp2_with fail;go_ret;exact⟨aa HE.o.symm,gV.o⟩
def ry(g:af d)(out:List Int)(r:Int)(nx:List Int)(i:Nat):List Int:=
 if out.getD i 0=0∧mJ g out ((g.1.getD i (⟨#[]⟩,[])).1)=true then nx.set i r else nx
def mP(g:af d)(out:List Int)(r:Int)(k:Nat):List Int:=(List.range k).foldl (ry g out r) out
def hts(g:af d)(k:Nat):List Int:=(List.range k).foldl (fun out (j:Nat)=>mP g out ((j:Int)+1) g.1.length) (List.replicate g.1.length 0)
theorem tL(g:af d)(out:List Int)(r:Int)(k:Nat):mP g out r (k+1)=ry g out r (mP g out r k) k:=by
 unfold mP;rw[List.range_succ,List.foldl_append];rfl
theorem wD(g:af d)(k:Nat):hts g (k+1)=mP g (hts g k) ((k:Int)+1) g.1.length:=by
 unfold hts;rw[List.range_succ,List.foldl_append];rfl
theorem Gx{g:af d}{out:List Int}{r M:Int}(hr:0≤r∧r≤M){nx:List Int}{i:Nat}(h:∀y∈nx,0≤y∧y≤M):(ry g out r nx i).length=nx.length∧∀y∈ry g out r nx i,0≤y∧y≤M:=by
 unfold ry
 split
 ·refine⟨by simp,fun y q=>?_⟩
  rcases List.mem_or_eq_of_mem_set q with q|rfl
  ·exact h y q
  ·exact hr
 ·exact⟨rfl,h⟩
theorem Bf{g:af d}{out:List Int}{r M:Int}(hr:0≤r∧r≤M)(h:∀y∈out,0≤y∧y≤M):∀k,(mP g out r k).length=out.length∧∀y∈mP g out r k,0≤y∧y≤M:=by
 intro k
 induction k with
 |zero=>exact⟨rfl,h⟩
 |succ k q=>
  rw[tL];have:=Gx (g:=g) (out:=out) hr (i:=k) q.2;exact⟨this.1.trans q.1,this.2⟩
theorem Ay(g:af d):∀k,k≤g.1.length→(hts g k).length=g.1.length∧∀y∈hts g k,0≤y∧y≤(g.1.length:Int):=by
 intro k
 induction k with
 |zero=>exact fun _=>⟨by simp[hts],fun y q=>by have:=(List.mem_replicate.1 q).2;omega⟩
 |succ k B=>
  intro hk
  have h1:=B (by omega);rw[wD];have h:=Bf (g:=g) (out:=hts g k) (r:=(k:Int)+1) (M:=g.1.length) (by omega) h1.2 g.1.length;exact⟨h.1.trans h1.1,h.2⟩
theorem lF.slR{rest:List Value}{b:Nat}{xs:List Int}(h:lF rest w b xs)(hw:∀y∈xs,0≤y∧y≤140737488351232)(hr:xs.length≤1048576){cap:Nat}(hc:xs.length≤cap):∃fq,SlR fq w (.slice (some ⟨b,0,none⟩) xs.length cap) xs∧∀c∈fq,c=b:=by
 by_cases B:xs=[]
 ·subst B
  exact⟨[],⟨_,cap,rfl,hc,by simp,.inl ⟨rfl,rfl⟩⟩,by simp⟩
 ·refine⟨[b],⟨_,cap,rfl,hc,by unfold bn;omega,.inr ⟨b,0,List.replicate xs.length [],B,rfl,by simp,by simp,fun j q=>az.frozen h _,fun i hi D=>?_⟩⟩,by simp⟩
  refine⟨[.int .i64 xs[i]],fun j v q=>?_,by have:=hw _ (getElem_mem hi);simpa using rO (jm this.1 this.2) w⟩
  cases j with
  |zero=>simp at q;subst q;simpa[Rd.n] using h.cell hi
  |succ j=>simp at q
def Kb(g:af d)(w:World)(e:Ending)(w':World):Prop:=∃v fq,e=.returned v∧SlR fq w' v (hts g g.1.length)∧(∀c∈fq,w.heap.size≤c)∧Gr w w'
theorem lF.I9{w0:World}{v:Value}{fps:List (List Nat)}{xs:List Int}(h:bE (α:=Int) w0 3 w v fps xs)(hn:xs≠[])(hr:xs.length≤1048576):∃g cap rest,v=.slice (some ⟨g,0,none⟩) xs.length cap∧w0.heap.size≤g∧xs.length≤cap∧lF rest w g xs:=by
 obtain⟨g,cap,rest,rfl,h1,-,q⟩:=lF.JI h hn;obtain⟨fp,hs,-⟩:=h.slR (by unfold bn;omega);obtain⟨a,c,he,hc,-⟩:=hs;injection he with _ _ B;exact⟨g,cap,rest,rfl,h1,by omega,q⟩
theorem yg{fg:List Nat}{cg:Array Value}(g:af d)(w:World)(hg:Rd.rd fg w cg.toList g)(hn:0<g.1.length)(bX:g.1.length≤1000):
  Calls Tryz.prog 201 #[.agg cg] w (Kb g w):=by
 obtain⟨i0,hi,ak,au,ax⟩:=info_parts Tryz.kJ;have K:=fun(W:World)=>run_make (P:=Tryz.prog) W 54 3 i0 (.int .i64 0) Tryz.underlying54 hi ak .i64 .i64 g.1.length g.1.length (by omega) (by omega) (by rw[ax];omega) (by omega)
 have HZ:=Kz (And.intro hi (And.intro ak (And.intro au ax)));rw[au] at K;clear hi ak au ax;simp only[Int.toNat_natCast,Nat.mul_one] at K;have X:=Kz (fun W:World=>jZ.made W g.1.length 3);have cB:(Value.int .i64 0).cells=#[.int .i64 0]:=rfl;rw[cB] at K;generalize madeCells #[.int .i64 0] g.1.length=C1 at K X;clear cB;have HG:=Kz hg;obtain⟨g0,g1,ag0,kg0,wL,ag1,kg1,w9,rfl,rfl,-,cK,vD,vF,xc,vG,vL⟩:=yt hg;have lq:=cK.op3;clear hg;have x9:0<g0.length:=hn;have vO:g0.length≤1000:=bX
 change Ky (∀W:World,jZ (W.alloc (.cells C1 3)) W.heap.size 3 (List.replicate g0.length 0)) at X
 change ∀W:World,_=Result.ok (Value.slice _ g0.length g0.length) _ at K
 clear hn bX;go_in;go_wp2_with fail;generalize hB:(w.alloc (.cells #[.slice ag0 g0.length kg0,.slice ag1 g1.length kg1] 39)).alloc (.cells C1 3)=B;have gB:Gr w B:=gb hB;have sB:B.heap.size=w.heap.size+2:=by rw[←hB];simp
 have b0:B.cell? ⟨w.heap.size,0,none⟩=some (.slice ag0 g0.length kg0):=by rw[←hB];exact Gr.keep gd (aJ (A:=w) rfl rfl)
 have b1:B.cell? ⟨w.heap.size,1,none⟩=some (.slice ag1 g1.length kg1):=by rw[←hB];exact Gr.keep gd (aJ (A:=w) rfl rfl)
 have d0:lF [] B (w.heap.size+1) (hts (g0,g1) 0):=by
  rw[←hB];have h:=X.o (w.alloc (.cells #[.slice ag0 g0.length kg0,.slice ag1 g1.length kg1] 39));rw[show(w.alloc (.cells #[.slice ag0 g0.length kg0,.slice ag1 g1.length kg1] 39)).heap.size=w.heap.size+1 by simp] at h;unfold lF;rw[List.append_nil];exact h
 have dB:=Kz gB;have dS:=Kz b0;have o5:=Kz b1;have o9:=Kz d0;clear hB gB b0 b1 d0 K X
 go_loopw [4,3] (fun s4 s3 wr=>∃(k b cap:Nat) (rest:List Value),k≤g0.length∧Ky (Gr B wr)∧Ky (lF rest wr b (hts (g0,g1) k))∧w.heap.size<b∧g0.length≤cap∧s4=.int .i64 ((k:Int)+1)∧s3=.slice (some ⟨b,0,none⟩) g0.length cap) (fun s4 _ _=>g0.length+1 - (intOf s4).toNat)
 case atStart=>exact⟨0,w.heap.size+1,g0.length,[],by omega,Kz (Gr.refl _),o9,by omega,le_refl _,rfl,rfl⟩
 case round=>
  obtain⟨k,bo,cap,rest,hk,Y,Z,yc,hcap,rfl,rfl⟩:=hrel
  rename World=>W1
  have y0:=Y.o.keep dS.o;have dV:=blk y0;have ay:=Ay (g0,g1) k hk;have ae:(hts (g0,g1) k).length=g0.length:=ay.1;have ah:∀y∈hts (g0,g1) k,0≤y∧y≤(g0.length:Int):=ay.2;obtain⟨q,V⟩:=nm (hts (g0,g1) k);rw[←V] at Z ae ah;have aZ:=Kz V;have qb:=Kz ah;have D:=Kz ae;obtain⟨fo,bg,fe⟩:=Z.o.slR (fun y hy=>by have:=ah y hy;omega) (by omega) (cap:=cap) (by omega);rw[ae] at bg;have yu:=Z.o.lt;have bq:=Kz bg;have fu:=Kz fe;clear ay V ah bg fe
  by_cases I:k<g0.length
  ·have q8:(k:Int)+1≤(g0.length:Int):=by omega
   have y5:IntKind.i64.wrap ((k:Int)+1+1)=(k:Int)+1+1:=IntWalk.i64_in _ (by omega);obtain⟨q9,hsrc,-,-⟩:=eT.qL bq.o;have gD:=hsrc.flat nK;have oH:=Kz hsrc;have sO:=Kz gD;have gF:q≠[]:=fun e=>by have:=D.o;rw[e] at this;simp at this;omega
   have uf:=Kz gF;clear hsrc gD gF ae
   go_wp2_with (first|(at_builtin;refine eU (α:=Int) (wg:=W1) (w0:=W1) (Gr.alloc (Gr.refl _) _) (le_refl _) (by simp) rfl _ _ 54 rfl 3 i0 (.int .i64 0) 8 Tryz.underlying54 HZ.o.1 HZ.o.2.1 HZ.o.2.2.1 HZ.o.2.2.2 rfl _ [] [] (by rfl) (bE.kF (α:=Int) (w0:=W1) (w:=W1) 3 (le_refl _) rfl) _ q9 q (by rfl) (oH.o.gr gd) (fun b _=>by rw[sO.o];simp) (by rw[D.o];unfold maxLen;simp;omega) (by rw[D.o];simp;omega) ?_;intro v3 w3 h1 h2 h3 h4;rw[List.nil_append,List.nil_append] at h1;obtain⟨g3,uo,ai,gT,y7,gV,gX⟩:=lF.I9 h1 uf.o (by rw[D.o];omega);rw[D.o] at gT gV;subst gT;have uq:=Kz gX;have bB:=Kz h4;clear h1 h2 h3 h4 gX))
   have vR:=Y.o.size;clear y0 dV
   go_loopw [6] (fun s6 wr=>∃i:Nat,i≤g0.length∧Ky (Wr [g3] w3 wr)∧Ky (lF ai wr g3 (mP (g0,g1) q ((k:Int)+1) i))∧s6=.int .i64 i) (fun s6 _=>g0.length - (intOf s6).toNat)
   case atStart=>exact⟨0,by omega,Kz (Wr.refl _ _),uq,rfl⟩
   case round=>
    obtain⟨i,hi,O,T,rfl⟩:=hrel
    rename World=>W4
    have aj:=Kz (Gr.wr (Y.o.trans bB.o) O.o (fun c hc=>by rw[List.mem_singleton.1 hc];omega));have bH:=Kz (dB.o.trans aj.o);have y0:=aj.o.keep dS.o;have y1:=aj.o.keep o5.o;have dV:=blk y0;have oL:=Kz ((bq.o.gr bB.o).wr O.o (fun c hc hm=>by have h1:=fu.o c hc;have h2:=List.mem_singleton.1 hm;omega))
    have ik:(mP (g0,g1) q ((k:Int)+1) i).length=g0.length:=by
     rw[(Bf (g:=(g0,g1)) (out:=q) (r:=(k:Int)+1) (M:=(g0.length:Int)) (by omega) qb.o i).1,D.o]
    have iw:=Kz ik;clear ik
    by_cases I:i<g0.length
    ·have kr:=bH.o
     have bL:i<q.length:=by rw[D.o];exact I
     have cO:W4.cell? ⟨bo,i,none⟩=some (.int .i64 q[i]):=O.o.aO (bB.o.keep (Z.o.cell bL)) (by simp;omega);have zO:=blk cO;have y8:(0:Int)≤(i:Int):=by omega
     have y9:(i:Int)<(g0.length:Int):=by omega
     have za:=zI1 i (by omega);obtain⟨b,off,rfl,zb⟩:=lq i I;obtain⟨q0,q1,ze,zf,zg,zl,uz,zn,zo,zq,vX,wF,zu,zx,zy⟩:=K9 cK I kr
     have U:Ky (mP (g0,g1) q ((k:Int)+1) (i+1)=if q[i]=0∧mJ (g0,g1) q q0=true then(mP (g0,g1) q ((k:Int)+1) i).set i ((k:Int)+1) else mP (g0,g1) q ((k:Int)+1) i):=Kz (by
      rw[tL];unfold ry;have e1:q.getD i 0=q[i]:=by simp[List.getD_eq_getElem?_getD,List.getElem?_eq_getElem bL]
      have e2:((g0,g1):af d).1.getD i (⟨#[]⟩,[])=g0[i]:=by simp[List.getD_eq_getElem?_getD,List.getElem?_eq_getElem I]
      rw[e1,e2,←uz.o])
     obtain⟨oi,ku⟩:=nm (q[i]);rw[←ku] at cO U;obtain⟨rb,bR⟩:=nm (mJ (g0,g1) q q0)
     have HC:Ky (∀x:Ext,Qz 237 #[.agg #[.slice (some ⟨b,off,none⟩) g0.length kg0,.slice ag1 g1.length kg1],.string q0,.slice (some ⟨bo,0,none⟩) g0.length cap] (W4.ext x) (.bool rb)):=Kz (fun x=>by
      rw[bR];exact wS (g0,g1) q0 q _ (Rd.gr HG.o (tg bH)) (oL.o.gr gd) D.o)
     rw[←bR] at U;clear ku bR bL kr;have d4:=T.o.cell (k:=i) (by rw[iw.o];exact I);have zH:=blk d4;have zL:=az.frozen T.o i
     by_cases h0:oi=0
     ·have e0:(oi==0)=true:=by simp[h0]
      go_wp2_with fail;refine wg ?_
      repeat(go_big_quiet_step (first|(go_at_call 237;exact aG (HC.o _))))
      refine wq fun nx=>?_
      cases rb with
      |true=>
       have J:=Kz (U.o.trans (if_pos ⟨h0,rfl⟩));go_wp2_with fail;exact⟨⟨i+1,by omega,Kz ((O.o.setCell (List.mem_singleton.2 rfl) _).gr (Gr.ext (Gr.refl _) _)),Kz (by rw[J.o];exact az.gr (lF.set T.o (by rw[iw.o];exact I) _) (Gr.ext (Gr.refl _) _)),by go_num⟩,by simp[intOf];omega⟩
      |false=>
       have J:=Kz (U.o.trans (if_neg (fun h=>by cases h.2)));go_wp2_with fail;exact⟨⟨i+1,by omega,Kz (O.o.gr (Gr.ext (Gr.refl _) _)),Kz (by rw[J.o];exact az.gr T.o (Gr.ext (Gr.refl _) _)),by go_num⟩,by simp[intOf];omega⟩
     ·have e0:(oi==0)=false:=by simpa using h0
      have J:=Kz (U.o.trans (if_neg (fun h=>h0 h.1)));clear h0;go_wp2_with fail;refine wg ?_
      repeat(go_big_quiet_step (fail))
      refine wq fun nx=>?_
      go_wp2_with fail;exact⟨⟨i+1,by omega,Kz (O.o.gr (Gr.ext (Gr.refl _) _)),Kz (by rw[J.o];exact az.gr T.o (Gr.ext (Gr.refl _) _)),by go_num⟩,by simp[intOf];omega⟩
    ·have u6:i=g0.length:=by omega
     subst u6;have ky:hts (g0,g1) (k+1)=mP (g0,g1) q ((k:Int)+1) g0.length:=by rw[wD,←aZ.o]
     have ve:=Kz ky;clear ky;go_wp2_with fail;refine⟨⟨k+1,g3,uo,ai,by omega,aj,Kz (by rw[ve.o];exact T.o),by omega,gV,?_,rfl⟩,by simp[intOf];omega⟩
     go_num
  ·have vB:k=g0.length:=by omega
   subst vB;have q8:¬((g0.length:Int)+1≤(g0.length:Int)):=by omega
   go_wp2_with fail;go_ret;refine⟨_,fo,rfl,?_,fun c hc=>by have:=fu.o c hc;omega,dB.o.trans Y.o⟩;rw[←aZ.o];exact bq.o
end Go.Proofs.YtleafadpfeibfaaGreat
